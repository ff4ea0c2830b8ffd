import Derived.Test.YthdeicbkimlnhaaPFnExactKeptx0
import Derived.Test.YthdeicbkimlnhaaPFnExactKeptx2
import Derived.Test.YthdeicbkimlnhaaPFnExactKeptx4
import Derived.Test.YthdeicbkimlnhaaPFnExactKeptx7
import Derived.Test.YthdeicbkimlnhaaPFnExactKeptx10
import Derived.Test.YthdeicbkimlnhaaPFnExactKeptx11
import Derived.Test.YthdeicbkimlnhaaPFnExactKeptx12
import Derived.Test.YthdeicbkimlnhaaPFnExactKeptxd
namespace Go.Proofs.Ythdeicbkimlnhaa.PFnExactKept
open Go.RowKit Go.Proofs.YthdeicbkimlnhaaW.PrintWords Go.Proofs.YthdeicbkimlnhaaW.PrintLast Go.Proofs.YthdeicbkimlnhaaW.PrintMore Go.Proofs.YthdeicbkimlnhaaH
attribute [local go_sem] max2_int min2_int max_two min_two max_three min_three max_four min_four   -- for this text's walks alone
set_option linter.unusedVariables false
set_option linter.unusedSimpArgs false
set_option maxRecDepth 100000

/-! ### laws_FnExactKept: function 12 -/
set_option maxHeartbeats 8000000 in
theorem laws_FnExactKept.calls (k : Nat) (A0_0 : Option Addr) (c0_0 : Nat) (l0_0 : List (S175)) (A0_1 : Option Addr) (c0_1 : Nat) (l0_1 : List Int) (A0_2 : Option Addr) (c0_2 : Nat) (l0_2 : List (S177)) (a0_3 : Int) (A0_4 : Option Addr) (c0_4 : Nat) (l0_4 : List Int) (a1_0 : Int) (a1_1 : Int) (a1_2 : Int) (a1_3 : Int) (a1_4 : Int) (a1_5 : Int) (a1_6 : Int) (r_ : Bool) (w : World) (hr0_0 : Kd.C k175 w A0_0 l0_0.length l0_0) (hc0_0 : l0_0.length ≤ c0_0) (hr0_1 : Kd.C (Kd.int .i64) w A0_1 l0_1.length l0_1) (hc0_1 : l0_1.length ≤ c0_1) (hr0_2 : Kd.C k177 w A0_2 l0_2.length l0_2) (hc0_2 : l0_2.length ≤ c0_2) (hr0_4 : Kd.C (Kd.int .i64) w A0_4 l0_4.length l0_4) (hc0_4 : l0_4.length ≤ c0_4) (h : laws_FnExactKept.f k l0_0 l0_1 l0_2 a0_3 l0_4 a1_0 a1_1 a1_2 a1_3 a1_4 a1_5 a1_6 = some true) :
  Calls Try.prog 12 #[.agg #[.slice A0_0 l0_0.length c0_0,.slice A0_1 l0_1.length c0_1,.slice A0_2 l0_2.length c0_2,.int .i64 a0_3,.slice A0_4 l0_4.length c0_4],.agg #[.int .i64 a1_0,.int .i64 a1_1,.int .i64 a1_2,.int .i64 a1_3,.int .i64 a1_4,.int .i64 a1_5,.int .i64 a1_6]] w fun e w'=>e = .returned (.bool true)∧Below w.heap.size w w':=by
 have hu45:=Try.underlying45
 have hu107:=Try.underlying107
 have hu51:=Try.underlying51
 have HR0_0:=ak hr0_0
 have HC0_0:=ak hc0_0
 clear hr0_0 hc0_0
 have HR0_1:=ak hr0_1
 have HC0_1:=ak hc0_1
 clear hr0_1 hc0_1
 have HR0_2:=ak hr0_2
 have HC0_2:=ak hc0_2
 clear hr0_2 hc0_2
 have HR0_4:=ak hr0_4
 have HC0_4:=ak hc0_4
 clear hr0_4 hc0_4
 have HB:=ak (Below.refl w.heap.size w)
 have H:=h
 clear h
 unfold laws_FnExactKept.f at H
 replace H:=Option.bind_eq_some_iff.mp H
 obtain ⟨t409,A30,H⟩:=H
 try dsimp only at H
 have A3:=ak A30
 clear A30
 by_cases c4 : t409 < 0
 ·rw [if_pos c4] at H
  have c4b0 : decide (t409 < 0) = true:=decide_eq_true c4
  clear c4
  (first | (obtain rfl:=Option.some.inj H) | clear H)
  go_enter Try.func12,Try.ntmps12
  go_wp2_with (first | ((with_reducible refine gate_dst (N:=2) rfl ?_);refine box_event ?hg (N:=2) ?hd (cs:=#[.slice A0_0 l0_0.length c0_0,.slice A0_1 l0_1.length c0_1,.slice A0_2 l0_2.length c0_2,.int .i64 a0_3,.slice A0_4 l0_4.length c0_4]) (t:=45) ?hr ?_;(case hd=>rfl);(case hg=>rfl);(case hr=>first | (go_simp;done) | (go_simp;rfl));intro gb407 hg w5 hbox hb;have n_ : _∧_∧_∧_:=⟨kh HB hb,ak (hbox),kz HB hg,kz HB hg⟩;clear HB hb hbox hg;obtain ⟨HB,BK407,GW407,GE407⟩:=n_) | ((with_reducible refine gate_dst (N:=3) rfl ?_);refine box_event ?hg (N:=3) ?hd (cs:=#[.int .i64 a1_0,.int .i64 a1_1,.int .i64 a1_2,.int .i64 a1_3,.int .i64 a1_4,.int .i64 a1_5,.int .i64 a1_6]) (t:=107) ?hr ?_;(case hd=>rfl);(case hg=>rfl);(case hr=>first | (go_simp;done) | (go_simp;rfl));intro gb408 hg w6 hbox hb;have n_ : _∧_∧_∧_∧_∧_∧_:=⟨kb BK407 hb,kh HB hb,ak (hbox),kz HB hg,kz HB hg,nl BK407 hg,ng BK407 hg⟩;clear BK407 HB hb hbox hg;obtain ⟨BK407,HB,BK408,GW408,GE408,NB407_408,NB408_407⟩:=n_;have hnb7:=NB407_408.out;have hnc7:=NB408_407.out;have hcz8_0 : w6.cell? ⟨gb407,0,none⟩ = some (.slice A0_0 l0_0.length c0_0):=ce BK407 0;have hcz8_1 : w6.cell? ⟨gb407,1,none⟩ = some (.slice A0_1 l0_1.length c0_1):=ce BK407 1;have hcz8_2 : w6.cell? ⟨gb407,2,none⟩ = some (.slice A0_2 l0_2.length c0_2):=ce BK407 2;have hcz8_3 : w6.cell? ⟨gb407,3,none⟩ = some (.int .i64 a0_3):=ce BK407 3;have hcz8_4 : w6.cell? ⟨gb407,4,none⟩ = some (.slice A0_4 l0_4.length c0_4):=ce BK407 4;have hfz8_0:=blk_frozen BK407.out 0;have hfz8_1:=blk_frozen BK407.out 1;have hfz8_2:=blk_frozen BK407.out 2;have hfz8_3:=blk_frozen BK407.out 3;have hfz8_4:=blk_frozen BK407.out 4) | ((with_reducible refine gc (f:=23) rfl ?_);refine gl (some 18) Try.func23 #[.agg #[.slice A0_0 l0_0.length c0_0,.slice A0_1 l0_1.length c0_1,.slice A0_2 l0_2.length c0_2,.int .i64 a0_3,.slice A0_4 l0_4.length c0_4],.int .i64 1048576] ?_;(with_reducible refine (laws_szKeeper.calls _ _ l0_0 _ _ l0_1 _ _ l0_2 a0_3 _ _ l0_4 1048576 t409 _ ?side1 ?side2 ?side3 ?side4 ?side5 ?side6 ?side7 ?side8 A3.out).mono ?_);(case side1=>exact rc (Kd.C_below HR0_0.out HB.out));(case side2=>exact HC0_0.out);(case side3=>exact rc (Kd.C_below HR0_1.out HB.out));(case side4=>exact HC0_1.out);(case side5=>exact rc (Kd.C_below HR0_2.out HB.out));(case side6=>exact HC0_2.out);(case side7=>exact rc (Kd.C_below HR0_4.out HB.out));(case side8=>exact HC0_4.out);rintro e w9 ⟨rfl,hb⟩;refine ⟨_,rfl,?_⟩;have n_ : _∧_∧_:=⟨kb BK407 hb,kb BK408 hb,kh HB hb⟩;clear BK407 BK408 HB;obtain ⟨BK407,BK408,HB⟩:=n_;(try clear hb);(try clear hb2);(try clear hk);(try clear hi)))
  go_ret
  exact ⟨by first | rfl | (simp [errW_none,errW_some] <;> rfl) | (simp [*,errW_none,errW_some] <;> rfl),rbx HB⟩
 rw [if_neg c4] at H
 have c4b0 : decide (t409 < 0) = false:=decide_eq_false c4
 clear c4
 replace H:=Option.bind_eq_some_iff.mp H
 obtain ⟨⟨t410,t413,t416,t419,t420⟩,A100,H⟩:=H
 try dsimp only at H
 have A10:=ak A100
 clear A100
 replace H:=Option.bind_eq_some_iff.mp H
 obtain ⟨⟨t423,t424,t425,t426,t427,t428,t429⟩,A110,H⟩:=H
 try dsimp only at H
 have A11:=ak A110
 clear A110
 replace H:=Option.bind_eq_some_iff.mp H
 obtain ⟨⟨t430,t433,t436,t439,t440,t443⟩,A120,H⟩:=H
 try dsimp only at H
 have A12:=ak A120
 clear A120
 replace H:=Option.bind_eq_some_iff.mp H
 obtain ⟨⟨t445,t448,t451,t454,t455⟩,A130,H⟩:=H
 try dsimp only at H
 have A13:=ak A130
 clear A130
 replace H:=Option.bind_eq_some_iff.mp H
 obtain ⟨⟨t459,t460,t461,t462,t463,t464,t465⟩,A140,H⟩:=H
 try dsimp only at H
 have A14:=ak A140
 clear A140
 replace H:=Option.bind_eq_some_iff.mp H
 obtain ⟨⟨t466,t469,t472,t475,t476,t479⟩,A150,H⟩:=H
 try dsimp only at H
 have A15:=ak A150
 clear A150
 have HC16:=ak H
 clear H
 go_enter Try.func12,Try.ntmps12
 try go_wp2_with (first | ((with_reducible refine gate_dst (N:=2) rfl ?_);refine box_event ?hg (N:=2) ?hd (cs:=#[.slice A0_0 l0_0.length c0_0,.slice A0_1 l0_1.length c0_1,.slice A0_2 l0_2.length c0_2,.int .i64 a0_3,.slice A0_4 l0_4.length c0_4]) (t:=45) ?hr ?_;(case hd=>rfl);(case hg=>rfl);(case hr=>first | (go_simp;done) | (go_simp;rfl));intro gb407 hg w17 hbox hb;have n_ : _∧_∧_∧_:=⟨kh HB hb,ak (hbox),kz HB hg,kz HB hg⟩;clear HB hb hbox hg;obtain ⟨HB,BK407,GW407,GE407⟩:=n_) | ((with_reducible refine gate_dst (N:=3) rfl ?_);refine box_event ?hg (N:=3) ?hd (cs:=#[.int .i64 a1_0,.int .i64 a1_1,.int .i64 a1_2,.int .i64 a1_3,.int .i64 a1_4,.int .i64 a1_5,.int .i64 a1_6]) (t:=107) ?hr ?_;(case hd=>rfl);(case hg=>rfl);(case hr=>first | (go_simp;done) | (go_simp;rfl));intro gb408 hg w18 hbox hb;have n_ : _∧_∧_∧_∧_∧_∧_:=⟨kb BK407 hb,kh HB hb,ak (hbox),kz HB hg,kz HB hg,nl BK407 hg,ng BK407 hg⟩;clear BK407 HB hb hbox hg;obtain ⟨BK407,HB,BK408,GW408,GE408,NB407_408,NB408_407⟩:=n_;have hnb19:=NB407_408.out;have hnc19:=NB408_407.out;have hcz20_0 : w18.cell? ⟨gb407,0,none⟩ = some (.slice A0_0 l0_0.length c0_0):=ce BK407 0;have hcz20_1 : w18.cell? ⟨gb407,1,none⟩ = some (.slice A0_1 l0_1.length c0_1):=ce BK407 1;have hcz20_2 : w18.cell? ⟨gb407,2,none⟩ = some (.slice A0_2 l0_2.length c0_2):=ce BK407 2;have hcz20_3 : w18.cell? ⟨gb407,3,none⟩ = some (.int .i64 a0_3):=ce BK407 3;have hcz20_4 : w18.cell? ⟨gb407,4,none⟩ = some (.slice A0_4 l0_4.length c0_4):=ce BK407 4;have hfz20_0:=blk_frozen BK407.out 0;have hfz20_1:=blk_frozen BK407.out 1;have hfz20_2:=blk_frozen BK407.out 2;have hfz20_3:=blk_frozen BK407.out 3;have hfz20_4:=blk_frozen BK407.out 4) | ((with_reducible refine gc (f:=23) rfl ?_);refine gl (some 18) Try.func23 #[.agg #[.slice A0_0 l0_0.length c0_0,.slice A0_1 l0_1.length c0_1,.slice A0_2 l0_2.length c0_2,.int .i64 a0_3,.slice A0_4 l0_4.length c0_4],.int .i64 1048576] ?_;(with_reducible refine (laws_szKeeper.calls _ _ l0_0 _ _ l0_1 _ _ l0_2 a0_3 _ _ l0_4 1048576 t409 _ ?side1 ?side2 ?side3 ?side4 ?side5 ?side6 ?side7 ?side8 A3.out).mono ?_);(case side1=>exact rc (Kd.C_below HR0_0.out HB.out));(case side2=>exact HC0_0.out);(case side3=>exact rc (Kd.C_below HR0_1.out HB.out));(case side4=>exact HC0_1.out);(case side5=>exact rc (Kd.C_below HR0_2.out HB.out));(case side6=>exact HC0_2.out);(case side7=>exact rc (Kd.C_below HR0_4.out HB.out));(case side8=>exact HC0_4.out);rintro e w21 ⟨rfl,hb⟩;refine ⟨_,rfl,?_⟩;have n_ : _∧_∧_:=⟨kb BK407 hb,kb BK408 hb,kh HB hb⟩;clear BK407 BK408 HB;obtain ⟨BK407,BK408,HB⟩:=n_;(try clear hb);(try clear hb2);(try clear hk);(try clear hi)))
 have n_ : _∧_∧_:=⟨ak (blk_drew BK407.out),ak (blk_drew BK408.out),ak (below_drew1 HB.out)⟩
 clear BK407 BK408 HB
 obtain ⟨BK407,BK408,HB⟩:=n_
 refine start_ (n:=11) (S:=fun w'=>w'.cell? ⟨gb407,0,none⟩ = some (.slice A0_0 l0_0.length c0_0)∧w'.cell? ⟨gb407,1,none⟩ = some (.slice A0_1 l0_1.length c0_1)∧w'.cell? ⟨gb407,2,none⟩ = some (.slice A0_2 l0_2.length c0_2)∧w'.cell? ⟨gb407,3,none⟩ = some (.int .i64 a0_3)∧w'.cell? ⟨gb407,4,none⟩ = some (.slice A0_4 l0_4.length c0_4)∧w'.cell? ⟨gb408,0,none⟩ = some (.int .i64 a1_0)∧w'.cell? ⟨gb408,1,none⟩ = some (.int .i64 a1_1)∧w'.cell? ⟨gb408,2,none⟩ = some (.int .i64 a1_2)∧w'.cell? ⟨gb408,3,none⟩ = some (.int .i64 a1_3)∧w'.cell? ⟨gb408,4,none⟩ = some (.int .i64 a1_4)∧w'.cell? ⟨gb408,5,none⟩ = some (.int .i64 a1_5)∧w'.cell? ⟨gb408,6,none⟩ = some (.int .i64 a1_6)) (ds:=[]) (lb 11 0) (by kernel_rfl) rfl (by kernel_rfl) ⟨ce BK407 0,ce BK407 1,ce BK407 2,ce BK407 3,ce BK407 4,ce BK408 0,ce BK408 1,ce BK408 2,ce BK408 3,ce BK408 4,ce BK408 5,ce BK408 6⟩ (fun hHeld=>?_);refine with_tabW laws_FnExactKept.tab5 laws_FnExactKept.bits5 (fun HT_ HW_=>?_)
 generalize w21.drew = w22 at BK407 BK408 HB hHeld ⊢
 refine tv 0 (some 22) 1 rfl rfl HT_ HW_ hHeld ?_
 refine tv 2 (some 24) 5 rfl rfl HT_ HW_ hHeld ?_
 refine join_ (σ:=Value × Value × Value × Value × Value × Value × Value × Value × Nat) 2 (lb 11 511) (fun s_=>[(23,.agg #[s_.1,s_.2.1,s_.2.2.1,.int .i64 t419,s_.2.2.2.1]),(25,.agg #[.int .i64 t423,.int .i64 t424,.int .i64 t425,.int .i64 t426,.int .i64 t427,.int .i64 t428,.int .i64 t429]),(26,.tuple #[.agg #[s_.2.2.2.2.1,s_.2.2.2.2.2.1,s_.2.2.2.2.2.2.1,.int .i64 t439,s_.2.2.2.2.2.2.2.1],.bool t443]),(6,.pointer (some ⟨s_.2.2.2.2.2.2.2.2,0,none⟩)),(21,.tuple #[.agg #[s_.2.2.2.2.1,s_.2.2.2.2.2.1,s_.2.2.2.2.2.2.1,.int .i64 t439,s_.2.2.2.2.2.2.2.1],.bool t443]),(27,.agg #[s_.2.2.2.2.1,s_.2.2.2.2.2.1,s_.2.2.2.2.2.2.1,.int .i64 t439,s_.2.2.2.2.2.2.2.1]),(28,.bool t443)]) (fun s_ w'=>(w'.cell? ⟨gb407,0,none⟩ = some (.slice A0_0 l0_0.length c0_0)∧w'.cell? ⟨gb407,1,none⟩ = some (.slice A0_1 l0_1.length c0_1)∧w'.cell? ⟨gb407,2,none⟩ = some (.slice A0_2 l0_2.length c0_2)∧w'.cell? ⟨gb407,3,none⟩ = some (.int .i64 a0_3)∧w'.cell? ⟨gb407,4,none⟩ = some (.slice A0_4 l0_4.length c0_4)∧w'.cell? ⟨gb408,0,none⟩ = some (.int .i64 a1_0)∧w'.cell? ⟨gb408,1,none⟩ = some (.int .i64 a1_1)∧w'.cell? ⟨gb408,2,none⟩ = some (.int .i64 a1_2)∧w'.cell? ⟨gb408,3,none⟩ = some (.int .i64 a1_3)∧w'.cell? ⟨gb408,4,none⟩ = some (.int .i64 a1_4)∧w'.cell? ⟨gb408,5,none⟩ = some (.int .i64 a1_5)∧w'.cell? ⟨gb408,6,none⟩ = some (.int .i64 a1_6))∧(Kd.R k134 134 w' w.heap.size (fun k_=>some k_ ≠ (s_.2.2.2.2.1 : Value).ownBlock) s_.1 t410)∧(Kd.R (Kd.int .i64) 3 w' w.heap.size (fun k_=>some k_ ≠ (s_.2.2.2.1 : Value).ownBlock∧some k_ ≠ (s_.2.2.2.2.2.1 : Value).ownBlock∧some k_ ≠ (s_.2.2.2.2.2.2.2.1 : Value).ownBlock) s_.2.1 t413)∧(Kd.R k127 127 w' w.heap.size (fun k_=>some k_ ≠ (s_.2.2.2.2.2.2.1 : Value).ownBlock) s_.2.2.1 t416)∧(Kd.R (Kd.int .i64) 3 w' w.heap.size (fun k_=>some k_ ≠ (s_.2.1 : Value).ownBlock∧some k_ ≠ (s_.2.2.2.2.2.1 : Value).ownBlock∧some k_ ≠ (s_.2.2.2.2.2.2.2.1 : Value).ownBlock) s_.2.2.2.1 t420)∧(Kd.R k134 134 w' w.heap.size (fun k_=>some k_ ≠ (s_.1 : Value).ownBlock) s_.2.2.2.2.1 t430)∧(Kd.R (Kd.int .i64) 3 w' w.heap.size (fun k_=>some k_ ≠ (s_.2.1 : Value).ownBlock∧some k_ ≠ (s_.2.2.2.1 : Value).ownBlock∧some k_ ≠ (s_.2.2.2.2.2.2.2.1 : Value).ownBlock) s_.2.2.2.2.2.1 t433)∧(Kd.R k127 127 w' w.heap.size (fun k_=>some k_ ≠ (s_.2.2.1 : Value).ownBlock) s_.2.2.2.2.2.2.1 t436)∧(Kd.R (Kd.int .i64) 3 w' w.heap.size (fun k_=>some k_ ≠ (s_.2.1 : Value).ownBlock∧some k_ ≠ (s_.2.2.2.1 : Value).ownBlock∧some k_ ≠ (s_.2.2.2.2.2.1 : Value).ownBlock) s_.2.2.2.2.2.2.2.1 t440)∧(w'.heap[gb407]? = some (.cells #[.slice A0_0 l0_0.length c0_0,.slice A0_1 l0_1.length c0_1,.slice A0_2 l0_2.length c0_2,.int .i64 a0_3,.slice A0_4 l0_4.length c0_4] 45 (0,0)))∧(w'.heap[gb408]? = some (.cells #[.int .i64 a1_0,.int .i64 a1_1,.int .i64 a1_2,.int .i64 a1_3,.int .i64 a1_4,.int .i64 a1_5,.int .i64 a1_6] 107 (0,0)))∧(w'.heap[s_.2.2.2.2.2.2.2.2]? = some (.cells #[.slice none 0 0,.slice none 0 0,.slice none 0 0,.int .i64 0,.slice none 0 0] 51 (0,0)))∧(w.heap.size ≤ s_.2.2.2.2.2.2.2.2)∧(w.heap.size ≤ s_.2.2.2.2.2.2.2.2)∧(gb407 ≠ s_.2.2.2.2.2.2.2.2)∧(s_.2.2.2.2.2.2.2.2 ≠ gb407)∧(gb408 ≠ s_.2.2.2.2.2.2.2.2)∧(s_.2.2.2.2.2.2.2.2 ≠ gb408)∧(Below w.heap.size w w')) ?_ ?_
 rotate_left
 ·intro hCont
  refine two_ (i:=1) (j:=8) (Ni:=some 23) (Nj:=some 6) (lb 11 7) (lb 11 261) rfl rfl rfl rfl (two_of HT_.out (by kernel_rfl)) (by decide) (by decide) (fun K hK=>?_) (fun K hK=>?_)
  rotate_left
  ·skip
   refine box_step ?hg (N:=6) ?hd (cs:=#[.slice none 0 0,.slice none 0 0,.slice none 0 0,.int .i64 0,.slice none 0 0]) (t:=51) ?hr ?_;(case hd=>rfl);(case hg=>rfl);(case hr=>first | (go_simp;done) | (go_simp;rfl))
   intro gb444 hg w23 hbox hb
   have n_ : _∧_∧_∧_∧_∧_∧_∧_∧_∧_:=⟨kb BK407 hb,kb BK408 hb,kh HB hb,ak (hbox),kz HB hg,kz HB hg,nl BK407 hg,ng BK407 hg,nl BK408 hg,ng BK408 hg⟩
   clear BK407 BK408 HB hb hbox hg
   obtain ⟨BK407,BK408,HB,BK444,GW444,GE444,NB407_444,NB444_407,NB408_444,NB444_408⟩:=n_
   refine hK.out _ _ ⟨ce BK407 0,ce BK407 1,ce BK407 2,ce BK407 3,ce BK407 4,ce BK408 0,ce BK408 1,ce BK408 2,ce BK408 3,ce BK408 4,ce BK408 5,ce BK408 6⟩ (fun hHeld=>?_)
   clear hK K
   refine nv 6 ?_
   refine ov 1 (some 23) 263 rfl rfl HT_ (fun K hK=>?_)
   refine gv Try.func25 #[.agg #[.slice A0_0 l0_0.length c0_0,.slice A0_1 l0_1.length c0_1,.slice A0_2 l0_2.length c0_2,.int .i64 a0_3,.slice A0_4 l0_4.length c0_4]] rfl rfl rfl ?_
   with_reducible refine (laws_toKeeper.calls k _ _ l0_0 _ _ l0_1 _ _ l0_2 a0_3 _ _ l0_4 t410 t413 t416 t419 t420 _ ?side1 ?side2 ?side3 ?side4 ?side5 ?side6 ?side7 ?side8 A10.out).mono ?_
   (case side1=>exact rc (Kd.C_below HR0_0.out HB.out))
   (case side2=>exact HC0_0.out)
   (case side3=>exact rc (Kd.C_below HR0_1.out HB.out))
   (case side4=>exact HC0_1.out)
   (case side5=>exact rc (Kd.C_below HR0_2.out HB.out))
   (case side6=>exact HC0_2.out)
   (case side7=>exact rc (Kd.C_below HR0_4.out HB.out))
   (case side8=>exact HC0_4.out)
   rintro e w24 ⟨v411,v414,v417,v421,rfl,ho0,ho1,ho2,ho3,hb⟩
   refine ⟨_,rfl,?_⟩
   have n_ : _∧_∧_∧_∧_∧_∧_∧_:=⟨kl ho0 HB,kl ho1 HB,kl ho2 HB,kl ho3 HB,kb BK407 hb,kb BK408 hb,kb BK444 hb,kh HB hb⟩
   clear BK407 BK408 BK444 HB
   obtain ⟨HO412,HO415,HO418,HO422,BK407,BK408,BK444,HB⟩:=n_
   (try clear hb)
   (try clear hb2)
   (try clear hk)
   (try clear hi)
   (try clear ho0)
   (try clear ho1)
   (try clear ho2)
   (try clear ho3)
   refine hK.out _ _ ⟨ce BK407 0,ce BK407 1,ce BK407 2,ce BK407 3,ce BK407 4,ce BK408 0,ce BK408 1,ce BK408 2,ce BK408 3,ce BK408 4,ce BK408 5,ce BK408 6⟩ (fun hHeld=>?_)
   clear hK K
   refine nv 23 ?_
   refine ov 3 (some 25) 271 rfl rfl HT_ (fun K hK=>?_)
   refine gv Try.func83 #[.agg #[.int .i64 a1_0,.int .i64 a1_1,.int .i64 a1_2,.int .i64 a1_3,.int .i64 a1_4,.int .i64 a1_5,.int .i64 a1_6]] rfl rfl rfl ?_
   with_reducible refine (laws_toFrame.calls a1_0 a1_1 a1_2 a1_3 a1_4 a1_5 a1_6 t423 t424 t425 t426 t427 t428 t429 _ A11.out).mono ?_
   rintro e w25 ⟨rfl,hb⟩
   refine ⟨_,rfl,?_⟩
   have n_ : _∧_∧_∧_∧_∧_∧_∧_:=⟨ka HO412 hb,ka HO415 hb,ka HO418 hb,ka HO422 hb,kb BK407 hb,kb BK408 hb,kb BK444 hb,kh HB hb⟩
   clear HO412 HO415 HO418 HO422 BK407 BK408 BK444 HB
   obtain ⟨HO412,HO415,HO418,HO422,BK407,BK408,BK444,HB⟩:=n_
   (try clear hb)
   (try clear hb2)
   (try clear hk)
   (try clear hi)
   obtain ⟨Ao26,co26,eo26⟩:=Kd.R_slice HO412.out
   (first | subst eo26 | obtain ⟨rfl,rfl⟩:=se eo26)
   obtain ⟨Ao27,co27,eo27⟩:=Kd.R_slice HO415.out
   (first | subst eo27 | obtain ⟨rfl,rfl⟩:=se eo27)
   obtain ⟨Ao28,co28,eo28⟩:=Kd.R_slice HO418.out
   (first | subst eo28 | obtain ⟨rfl,rfl⟩:=se eo28)
   obtain ⟨Ao29,co29,eo29⟩:=Kd.R_slice HO422.out
   (first | subst eo29 | obtain ⟨rfl,rfl⟩:=se eo29)
   refine hK.out _ _ ⟨ce BK407 0,ce BK407 1,ce BK407 2,ce BK407 3,ce BK407 4,ce BK408 0,ce BK408 1,ce BK408 2,ce BK408 3,ce BK408 4,ce BK408 5,ce BK408 6⟩ (fun hHeld=>?_)
   clear hK K
   refine nv 25 ?_
   refine ov 4 (some 26) 287 rfl rfl HT_ (fun K hK=>?_)
   refine gv Try.func73 #[.agg #[.slice Ao26 t410.length co26,.slice Ao27 t413.length co27,.slice Ao28 t416.length co28,.int .i64 t419,.slice Ao29 t420.length co29],.agg #[.int .i64 t423,.int .i64 t424,.int .i64 t425,.int .i64 t426,.int .i64 t427,.int .i64 t428,.int .i64 t429]] rfl rfl rfl ?_
   with_reducible refine (spec_Kept.calls k _ _ t410 _ _ t413 _ _ t416 t419 _ _ t420 t423 t424 t425 t426 t427 t428 t429 t430 t433 t436 t439 t440 t443 _ ?side1 ?side2 ?side3 ?side4 ?side5 ?side6 ?side7 ?side8 A12.out).mono ?_
   (case side1=>exact rc (Kd.R_reads' HO412.out).2.2)
   (case side2=>exact (Kd.R_reads' HO412.out).2.1)
   (case side3=>exact rc (Kd.R_reads' HO415.out).2.2)
   (case side4=>exact (Kd.R_reads' HO415.out).2.1)
   (case side5=>exact rc (Kd.R_reads' HO418.out).2.2)
   (case side6=>exact (Kd.R_reads' HO418.out).2.1)
   (case side7=>exact rc (Kd.R_reads' HO422.out).2.2)
   (case side8=>exact (Kd.R_reads' HO422.out).2.1)
   rintro e w30 ⟨v431,v434,v437,v441,rfl,ho0,ho1,ho2,ho3,hb⟩
   refine ⟨_,rfl,?_⟩
   have n_ : _∧_∧_∧_∧_∧_∧_∧_∧_∧_∧_∧_:=⟨ke HO412 ho0 hb,ak (Kd.R_mono (Kd.R_told (Kd.R_told (Kd.R_old (rr HO415.out) hb) (Kd.R_base ho1)) (Kd.R_base ho3)) (fun _ h_=>h_.1)),ke HO418 ho2 hb,ak (Kd.R_mono (Kd.R_told (Kd.R_told (Kd.R_old (rr HO422.out) hb) (Kd.R_base ho1)) (Kd.R_base ho3)) (fun _ h_=>h_.1)),kl (kn ho0 HO412) HB,kl (kn (kn ho1 HO415) HO422) HB,kl (kn ho2 HO418) HB,kl (kn (kn ho3 HO415) HO422) HB,kb BK407 hb,kb BK408 hb,kb BK444 hb,kh HB hb⟩
   clear HO412 HO415 HO418 HO422 BK407 BK408 BK444 HB
   obtain ⟨HO412,HO415,HO418,HO422,HO432,HO435,HO438,HO442,BK407,BK408,BK444,HB⟩:=n_
   (try clear hb)
   (try clear hb2)
   (try clear hk)
   (try clear hi)
   (try clear ho0)
   (try clear ho1)
   (try clear ho2)
   (try clear ho3)
   refine hK.out _ _ ⟨ce BK407 0,ce BK407 1,ce BK407 2,ce BK407 3,ce BK407 4,ce BK408 0,ce BK408 1,ce BK408 2,ce BK408 3,ce BK408 4,ce BK408 5,ce BK408 6⟩ (fun hHeld=>?_)
   clear hK K
   refine nv 26 ?_
   refine pv 5 (some 21) 319 rfl rfl HT_ ?_
   refine pv 6 (some 27) 383 rfl rfl HT_ ?_
   refine pv 7 (some 28) 511 rfl rfl HT_ ?_
   exact norm_ (by simp only [putAll,Act.put,List.setIfInBounds_toArray,List.set_cons_zero,List.set_cons_succ]) (hCont (.slice Ao26 t410.length co26,.slice Ao27 t413.length co27,.slice Ao28 t416.length co28,.slice Ao29 t420.length co29,v431,v434,v437,v441,gb444) _ ⟨hHeld,(rr (Kd.R_mono HO412.out (fun _ hk=>hk.2))),(rn HO415),(rr (Kd.R_mono HO418.out (fun _ hk=>hk.2))),(rn HO422),(rr (Kd.R_mono HO432.out (fun _ hk=>hk.2))),(rn HO435),(rr (Kd.R_mono HO438.out (fun _ hk=>hk.2))),(rn HO442),(rk BK407.out),(rk BK408.out),(rk BK444.out),GW444.out,GE444.out,NB407_444.out,NB444_407.out,NB408_444.out,NB444_408.out,(rb3 GE407.out GE408.out GE444.out HB.out)⟩)
  skip
  refine gv Try.func25 #[.agg #[.slice A0_0 l0_0.length c0_0,.slice A0_1 l0_1.length c0_1,.slice A0_2 l0_2.length c0_2,.int .i64 a0_3,.slice A0_4 l0_4.length c0_4]] rfl rfl rfl ?_
  with_reducible refine (laws_toKeeper.calls k _ _ l0_0 _ _ l0_1 _ _ l0_2 a0_3 _ _ l0_4 t410 t413 t416 t419 t420 _ ?side1 ?side2 ?side3 ?side4 ?side5 ?side6 ?side7 ?side8 A10.out).mono ?_
  (case side1=>exact rc (Kd.C_below HR0_0.out HB.out))
  (case side2=>exact HC0_0.out)
  (case side3=>exact rc (Kd.C_below HR0_1.out HB.out))
  (case side4=>exact HC0_1.out)
  (case side5=>exact rc (Kd.C_below HR0_2.out HB.out))
  (case side6=>exact HC0_2.out)
  (case side7=>exact rc (Kd.C_below HR0_4.out HB.out))
  (case side8=>exact HC0_4.out)
  rintro e w23 ⟨v411,v414,v417,v421,rfl,ho0,ho1,ho2,ho3,hb⟩
  refine ⟨_,rfl,?_⟩
  have n_ : _∧_∧_∧_∧_∧_∧_:=⟨kl ho0 HB,kl ho1 HB,kl ho2 HB,kl ho3 HB,kb BK407 hb,kb BK408 hb,kh HB hb⟩
  clear BK407 BK408 HB
  obtain ⟨HO412,HO415,HO418,HO422,BK407,BK408,HB⟩:=n_
  (try clear hb)
  (try clear hb2)
  (try clear hk)
  (try clear hi)
  (try clear ho0)
  (try clear ho1)
  (try clear ho2)
  (try clear ho3)
  refine hK.out _ _ ⟨ce BK407 0,ce BK407 1,ce BK407 2,ce BK407 3,ce BK407 4,ce BK408 0,ce BK408 1,ce BK408 2,ce BK408 3,ce BK408 4,ce BK408 5,ce BK408 6⟩ (fun hHeld=>?_)
  clear hK K
  refine nv 23 ?_
  refine two_ (i:=3) (j:=8) (Ni:=some 25) (Nj:=some 6) (lb 11 15) (lb 11 263) rfl rfl rfl rfl (two_of HT_.out (by kernel_rfl)) (by decide) (by decide) (fun K hK=>?_) (fun K hK=>?_)
  rotate_left
  ·skip
   refine box_step ?hg (N:=6) ?hd (cs:=#[.slice none 0 0,.slice none 0 0,.slice none 0 0,.int .i64 0,.slice none 0 0]) (t:=51) ?hr ?_;(case hd=>rfl);(case hg=>rfl);(case hr=>first | (go_simp;done) | (go_simp;rfl))
   intro gb444 hg w24 hbox hb
   have n_ : _∧_∧_∧_∧_∧_∧_∧_∧_∧_∧_∧_∧_∧_:=⟨ka HO412 hb,ka HO415 hb,ka HO418 hb,ka HO422 hb,kb BK407 hb,kb BK408 hb,kh HB hb,ak (hbox),kz HB hg,kz HB hg,nl BK407 hg,ng BK407 hg,nl BK408 hg,ng BK408 hg⟩
   clear HO412 HO415 HO418 HO422 BK407 BK408 HB hb hbox hg
   obtain ⟨HO412,HO415,HO418,HO422,BK407,BK408,HB,BK444,GW444,GE444,NB407_444,NB444_407,NB408_444,NB444_408⟩:=n_
   refine hK.out _ _ ⟨ce BK407 0,ce BK407 1,ce BK407 2,ce BK407 3,ce BK407 4,ce BK408 0,ce BK408 1,ce BK408 2,ce BK408 3,ce BK408 4,ce BK408 5,ce BK408 6⟩ (fun hHeld=>?_)
   clear hK K
   refine nv 6 ?_
   refine ov 3 (some 25) 271 rfl rfl HT_ (fun K hK=>?_)
   refine gv Try.func83 #[.agg #[.int .i64 a1_0,.int .i64 a1_1,.int .i64 a1_2,.int .i64 a1_3,.int .i64 a1_4,.int .i64 a1_5,.int .i64 a1_6]] rfl rfl rfl ?_
   with_reducible refine (laws_toFrame.calls a1_0 a1_1 a1_2 a1_3 a1_4 a1_5 a1_6 t423 t424 t425 t426 t427 t428 t429 _ A11.out).mono ?_
   rintro e w25 ⟨rfl,hb⟩
   refine ⟨_,rfl,?_⟩
   have n_ : _∧_∧_∧_∧_∧_∧_∧_:=⟨ka HO412 hb,ka HO415 hb,ka HO418 hb,ka HO422 hb,kb BK407 hb,kb BK408 hb,kb BK444 hb,kh HB hb⟩
   clear HO412 HO415 HO418 HO422 BK407 BK408 BK444 HB
   obtain ⟨HO412,HO415,HO418,HO422,BK407,BK408,BK444,HB⟩:=n_
   (try clear hb)
   (try clear hb2)
   (try clear hk)
   (try clear hi)
   obtain ⟨Ao26,co26,eo26⟩:=Kd.R_slice HO412.out
   (first | subst eo26 | obtain ⟨rfl,rfl⟩:=se eo26)
   obtain ⟨Ao27,co27,eo27⟩:=Kd.R_slice HO415.out
   (first | subst eo27 | obtain ⟨rfl,rfl⟩:=se eo27)
   obtain ⟨Ao28,co28,eo28⟩:=Kd.R_slice HO418.out
   (first | subst eo28 | obtain ⟨rfl,rfl⟩:=se eo28)
   obtain ⟨Ao29,co29,eo29⟩:=Kd.R_slice HO422.out
   (first | subst eo29 | obtain ⟨rfl,rfl⟩:=se eo29)
   refine hK.out _ _ ⟨ce BK407 0,ce BK407 1,ce BK407 2,ce BK407 3,ce BK407 4,ce BK408 0,ce BK408 1,ce BK408 2,ce BK408 3,ce BK408 4,ce BK408 5,ce BK408 6⟩ (fun hHeld=>?_)
   clear hK K
   refine nv 25 ?_
   refine ov 4 (some 26) 287 rfl rfl HT_ (fun K hK=>?_)
   refine gv Try.func73 #[.agg #[.slice Ao26 t410.length co26,.slice Ao27 t413.length co27,.slice Ao28 t416.length co28,.int .i64 t419,.slice Ao29 t420.length co29],.agg #[.int .i64 t423,.int .i64 t424,.int .i64 t425,.int .i64 t426,.int .i64 t427,.int .i64 t428,.int .i64 t429]] rfl rfl rfl ?_
   with_reducible refine (spec_Kept.calls k _ _ t410 _ _ t413 _ _ t416 t419 _ _ t420 t423 t424 t425 t426 t427 t428 t429 t430 t433 t436 t439 t440 t443 _ ?side1 ?side2 ?side3 ?side4 ?side5 ?side6 ?side7 ?side8 A12.out).mono ?_
   (case side1=>exact rc (Kd.R_reads' HO412.out).2.2)
   (case side2=>exact (Kd.R_reads' HO412.out).2.1)
   (case side3=>exact rc (Kd.R_reads' HO415.out).2.2)
   (case side4=>exact (Kd.R_reads' HO415.out).2.1)
   (case side5=>exact rc (Kd.R_reads' HO418.out).2.2)
   (case side6=>exact (Kd.R_reads' HO418.out).2.1)
   (case side7=>exact rc (Kd.R_reads' HO422.out).2.2)
   (case side8=>exact (Kd.R_reads' HO422.out).2.1)
   rintro e w30 ⟨v431,v434,v437,v441,rfl,ho0,ho1,ho2,ho3,hb⟩
   refine ⟨_,rfl,?_⟩
   have n_ : _∧_∧_∧_∧_∧_∧_∧_∧_∧_∧_∧_:=⟨ke HO412 ho0 hb,ak (Kd.R_mono (Kd.R_told (Kd.R_told (Kd.R_old (rr HO415.out) hb) (Kd.R_base ho1)) (Kd.R_base ho3)) (fun _ h_=>h_.1)),ke HO418 ho2 hb,ak (Kd.R_mono (Kd.R_told (Kd.R_told (Kd.R_old (rr HO422.out) hb) (Kd.R_base ho1)) (Kd.R_base ho3)) (fun _ h_=>h_.1)),kl (kn ho0 HO412) HB,kl (kn (kn ho1 HO415) HO422) HB,kl (kn ho2 HO418) HB,kl (kn (kn ho3 HO415) HO422) HB,kb BK407 hb,kb BK408 hb,kb BK444 hb,kh HB hb⟩
   clear HO412 HO415 HO418 HO422 BK407 BK408 BK444 HB
   obtain ⟨HO412,HO415,HO418,HO422,HO432,HO435,HO438,HO442,BK407,BK408,BK444,HB⟩:=n_
   (try clear hb)
   (try clear hb2)
   (try clear hk)
   (try clear hi)
   (try clear ho0)
   (try clear ho1)
   (try clear ho2)
   (try clear ho3)
   refine hK.out _ _ ⟨ce BK407 0,ce BK407 1,ce BK407 2,ce BK407 3,ce BK407 4,ce BK408 0,ce BK408 1,ce BK408 2,ce BK408 3,ce BK408 4,ce BK408 5,ce BK408 6⟩ (fun hHeld=>?_)
   clear hK K
   refine nv 26 ?_
   refine pv 5 (some 21) 319 rfl rfl HT_ ?_
   refine pv 6 (some 27) 383 rfl rfl HT_ ?_
   refine pv 7 (some 28) 511 rfl rfl HT_ ?_
   exact norm_ (by simp only [putAll,Act.put,List.setIfInBounds_toArray,List.set_cons_zero,List.set_cons_succ]) (hCont (.slice Ao26 t410.length co26,.slice Ao27 t413.length co27,.slice Ao28 t416.length co28,.slice Ao29 t420.length co29,v431,v434,v437,v441,gb444) _ ⟨hHeld,(rr (Kd.R_mono HO412.out (fun _ hk=>hk.2))),(rn HO415),(rr (Kd.R_mono HO418.out (fun _ hk=>hk.2))),(rn HO422),(rr (Kd.R_mono HO432.out (fun _ hk=>hk.2))),(rn HO435),(rr (Kd.R_mono HO438.out (fun _ hk=>hk.2))),(rn HO442),(rk BK407.out),(rk BK408.out),(rk BK444.out),GW444.out,GE444.out,NB407_444.out,NB444_407.out,NB408_444.out,NB444_408.out,(rb3 GE407.out GE408.out GE444.out HB.out)⟩)
  skip
  refine gv Try.func83 #[.agg #[.int .i64 a1_0,.int .i64 a1_1,.int .i64 a1_2,.int .i64 a1_3,.int .i64 a1_4,.int .i64 a1_5,.int .i64 a1_6]] rfl rfl rfl ?_
  with_reducible refine (laws_toFrame.calls a1_0 a1_1 a1_2 a1_3 a1_4 a1_5 a1_6 t423 t424 t425 t426 t427 t428 t429 _ A11.out).mono ?_
  rintro e w24 ⟨rfl,hb⟩
  refine ⟨_,rfl,?_⟩
  have n_ : _∧_∧_∧_∧_∧_∧_:=⟨ka HO412 hb,ka HO415 hb,ka HO418 hb,ka HO422 hb,kb BK407 hb,kb BK408 hb,kh HB hb⟩
  clear HO412 HO415 HO418 HO422 BK407 BK408 HB
  obtain ⟨HO412,HO415,HO418,HO422,BK407,BK408,HB⟩:=n_
  (try clear hb)
  (try clear hb2)
  (try clear hk)
  (try clear hi)
  obtain ⟨Ao25,co25,eo25⟩:=Kd.R_slice HO412.out
  (first | subst eo25 | obtain ⟨rfl,rfl⟩:=se eo25)
  obtain ⟨Ao26,co26,eo26⟩:=Kd.R_slice HO415.out
  (first | subst eo26 | obtain ⟨rfl,rfl⟩:=se eo26)
  obtain ⟨Ao27,co27,eo27⟩:=Kd.R_slice HO418.out
  (first | subst eo27 | obtain ⟨rfl,rfl⟩:=se eo27)
  obtain ⟨Ao28,co28,eo28⟩:=Kd.R_slice HO422.out
  (first | subst eo28 | obtain ⟨rfl,rfl⟩:=se eo28)
  refine hK.out _ _ ⟨ce BK407 0,ce BK407 1,ce BK407 2,ce BK407 3,ce BK407 4,ce BK408 0,ce BK408 1,ce BK408 2,ce BK408 3,ce BK408 4,ce BK408 5,ce BK408 6⟩ (fun hHeld=>?_)
  clear hK K
  refine nv 25 ?_
  refine two_ (i:=4) (j:=8) (Ni:=some 26) (Nj:=some 6) (lb 11 31) (lb 11 271) rfl rfl rfl rfl (two_of HT_.out (by kernel_rfl)) (by decide) (by decide) (fun K hK=>?_) (fun K hK=>?_)
  ·skip
   refine gv Try.func73 #[.agg #[.slice Ao25 t410.length co25,.slice Ao26 t413.length co26,.slice Ao27 t416.length co27,.int .i64 t419,.slice Ao28 t420.length co28],.agg #[.int .i64 t423,.int .i64 t424,.int .i64 t425,.int .i64 t426,.int .i64 t427,.int .i64 t428,.int .i64 t429]] rfl rfl rfl ?_
   with_reducible refine (spec_Kept.calls k _ _ t410 _ _ t413 _ _ t416 t419 _ _ t420 t423 t424 t425 t426 t427 t428 t429 t430 t433 t436 t439 t440 t443 _ ?side1 ?side2 ?side3 ?side4 ?side5 ?side6 ?side7 ?side8 A12.out).mono ?_
   (case side1=>exact rc (Kd.R_reads' HO412.out).2.2)
   (case side2=>exact (Kd.R_reads' HO412.out).2.1)
   (case side3=>exact rc (Kd.R_reads' HO415.out).2.2)
   (case side4=>exact (Kd.R_reads' HO415.out).2.1)
   (case side5=>exact rc (Kd.R_reads' HO418.out).2.2)
   (case side6=>exact (Kd.R_reads' HO418.out).2.1)
   (case side7=>exact rc (Kd.R_reads' HO422.out).2.2)
   (case side8=>exact (Kd.R_reads' HO422.out).2.1)
   rintro e w29 ⟨v431,v434,v437,v441,rfl,ho0,ho1,ho2,ho3,hb⟩
   refine ⟨_,rfl,?_⟩
   have n_ : _∧_∧_∧_∧_∧_∧_∧_∧_∧_∧_:=⟨ke HO412 ho0 hb,ak (Kd.R_mono (Kd.R_told (Kd.R_told (Kd.R_old (rr HO415.out) hb) (Kd.R_base ho1)) (Kd.R_base ho3)) (fun _ h_=>h_.1)),ke HO418 ho2 hb,ak (Kd.R_mono (Kd.R_told (Kd.R_told (Kd.R_old (rr HO422.out) hb) (Kd.R_base ho1)) (Kd.R_base ho3)) (fun _ h_=>h_.1)),kl (kn ho0 HO412) HB,kl (kn (kn ho1 HO415) HO422) HB,kl (kn ho2 HO418) HB,kl (kn (kn ho3 HO415) HO422) HB,kb BK407 hb,kb BK408 hb,kh HB hb⟩
   clear HO412 HO415 HO418 HO422 BK407 BK408 HB
   obtain ⟨HO412,HO415,HO418,HO422,HO432,HO435,HO438,HO442,BK407,BK408,HB⟩:=n_
   (try clear hb)
   (try clear hb2)
   (try clear hk)
   (try clear hi)
   (try clear ho0)
   (try clear ho1)
   (try clear ho2)
   (try clear ho3)
   refine hK.out _ _ ⟨ce BK407 0,ce BK407 1,ce BK407 2,ce BK407 3,ce BK407 4,ce BK408 0,ce BK408 1,ce BK408 2,ce BK408 3,ce BK408 4,ce BK408 5,ce BK408 6⟩ (fun hHeld=>?_)
   clear hK K
   refine nv 26 ?_
   refine pv 5 (some 21) 63 rfl rfl HT_ ?_
   refine pv 6 (some 27) 127 rfl rfl HT_ ?_
   refine pv 7 (some 28) 255 rfl rfl HT_ ?_
   refine ov 8 (some 6) 511 rfl rfl HT_ (fun K hK=>?_)
   refine box_step ?hg (N:=6) ?hd (cs:=#[.slice none 0 0,.slice none 0 0,.slice none 0 0,.int .i64 0,.slice none 0 0]) (t:=51) ?hr ?_;(case hd=>rfl);(case hg=>rfl);(case hr=>first | (go_simp;done) | (go_simp;rfl))
   intro gb444 hg w30 hbox hb
   have n_ : _∧_∧_∧_∧_∧_∧_∧_∧_∧_∧_∧_∧_∧_∧_∧_∧_∧_:=⟨ka HO412 hb,ka HO415 hb,ka HO418 hb,ka HO422 hb,ka HO432 hb,ka HO435 hb,ka HO438 hb,ka HO442 hb,kb BK407 hb,kb BK408 hb,kh HB hb,ak (hbox),kz HB hg,kz HB hg,nl BK407 hg,ng BK407 hg,nl BK408 hg,ng BK408 hg⟩
   clear HO412 HO415 HO418 HO422 HO432 HO435 HO438 HO442 BK407 BK408 HB hb hbox hg
   obtain ⟨HO412,HO415,HO418,HO422,HO432,HO435,HO438,HO442,BK407,BK408,HB,BK444,GW444,GE444,NB407_444,NB444_407,NB408_444,NB444_408⟩:=n_
   refine hK.out _ _ ⟨ce BK407 0,ce BK407 1,ce BK407 2,ce BK407 3,ce BK407 4,ce BK408 0,ce BK408 1,ce BK408 2,ce BK408 3,ce BK408 4,ce BK408 5,ce BK408 6⟩ (fun hHeld=>?_)
   clear hK K
   refine nv 6 ?_
   exact norm_ (by simp only [putAll,Act.put,List.setIfInBounds_toArray,List.set_cons_zero,List.set_cons_succ]) (hCont (.slice Ao25 t410.length co25,.slice Ao26 t413.length co26,.slice Ao27 t416.length co27,.slice Ao28 t420.length co28,v431,v434,v437,v441,gb444) _ ⟨hHeld,(rr (Kd.R_mono HO412.out (fun _ hk=>hk.2))),(rn HO415),(rr (Kd.R_mono HO418.out (fun _ hk=>hk.2))),(rn HO422),(rr (Kd.R_mono HO432.out (fun _ hk=>hk.2))),(rn HO435),(rr (Kd.R_mono HO438.out (fun _ hk=>hk.2))),(rn HO442),(rk BK407.out),(rk BK408.out),(rk BK444.out),GW444.out,GE444.out,NB407_444.out,NB444_407.out,NB408_444.out,NB444_408.out,(rb3 GE407.out GE408.out GE444.out HB.out)⟩)
  skip
  refine box_step ?hg (N:=6) ?hd (cs:=#[.slice none 0 0,.slice none 0 0,.slice none 0 0,.int .i64 0,.slice none 0 0]) (t:=51) ?hr ?_;(case hd=>rfl);(case hg=>rfl);(case hr=>first | (go_simp;done) | (go_simp;rfl))
  intro gb444 hg w25 hbox hb
  have n_ : _∧_∧_∧_∧_∧_∧_∧_∧_∧_∧_∧_∧_∧_:=⟨ka HO412 hb,ka HO415 hb,ka HO418 hb,ka HO422 hb,kb BK407 hb,kb BK408 hb,kh HB hb,ak (hbox),kz HB hg,kz HB hg,nl BK407 hg,ng BK407 hg,nl BK408 hg,ng BK408 hg⟩
  clear HO412 HO415 HO418 HO422 BK407 BK408 HB hb hbox hg
  obtain ⟨HO412,HO415,HO418,HO422,BK407,BK408,HB,BK444,GW444,GE444,NB407_444,NB444_407,NB408_444,NB444_408⟩:=n_
  obtain ⟨Ao26,co26,eo26⟩:=Kd.R_slice HO412.out
  (first | subst eo26 | obtain ⟨rfl,rfl⟩:=se eo26)
  obtain ⟨Ao27,co27,eo27⟩:=Kd.R_slice HO415.out
  (first | subst eo27 | obtain ⟨rfl,rfl⟩:=se eo27)
  obtain ⟨Ao28,co28,eo28⟩:=Kd.R_slice HO418.out
  (first | subst eo28 | obtain ⟨rfl,rfl⟩:=se eo28)
  obtain ⟨Ao29,co29,eo29⟩:=Kd.R_slice HO422.out
  (first | subst eo29 | obtain ⟨rfl,rfl⟩:=se eo29)
  refine hK.out _ _ ⟨ce BK407 0,ce BK407 1,ce BK407 2,ce BK407 3,ce BK407 4,ce BK408 0,ce BK408 1,ce BK408 2,ce BK408 3,ce BK408 4,ce BK408 5,ce BK408 6⟩ (fun hHeld=>?_)
  clear hK K
  refine nv 6 ?_
  refine ov 4 (some 26) 287 rfl rfl HT_ (fun K hK=>?_)
  refine gv Try.func73 #[.agg #[.slice Ao26 t410.length co26,.slice Ao27 t413.length co27,.slice Ao28 t416.length co28,.int .i64 t419,.slice Ao29 t420.length co29],.agg #[.int .i64 t423,.int .i64 t424,.int .i64 t425,.int .i64 t426,.int .i64 t427,.int .i64 t428,.int .i64 t429]] rfl rfl rfl ?_
  with_reducible refine (spec_Kept.calls k _ _ t410 _ _ t413 _ _ t416 t419 _ _ t420 t423 t424 t425 t426 t427 t428 t429 t430 t433 t436 t439 t440 t443 _ ?side1 ?side2 ?side3 ?side4 ?side5 ?side6 ?side7 ?side8 A12.out).mono ?_
  (case side1=>exact rc (Kd.R_reads' HO412.out).2.2)
  (case side2=>exact (Kd.R_reads' HO412.out).2.1)
  (case side3=>exact rc (Kd.R_reads' HO415.out).2.2)
  (case side4=>exact (Kd.R_reads' HO415.out).2.1)
  (case side5=>exact rc (Kd.R_reads' HO418.out).2.2)
  (case side6=>exact (Kd.R_reads' HO418.out).2.1)
  (case side7=>exact rc (Kd.R_reads' HO422.out).2.2)
  (case side8=>exact (Kd.R_reads' HO422.out).2.1)
  rintro e w30 ⟨v431,v434,v437,v441,rfl,ho0,ho1,ho2,ho3,hb⟩
  refine ⟨_,rfl,?_⟩
  have n_ : _∧_∧_∧_∧_∧_∧_∧_∧_∧_∧_∧_:=⟨ke HO412 ho0 hb,ak (Kd.R_mono (Kd.R_told (Kd.R_told (Kd.R_old (rr HO415.out) hb) (Kd.R_base ho1)) (Kd.R_base ho3)) (fun _ h_=>h_.1)),ke HO418 ho2 hb,ak (Kd.R_mono (Kd.R_told (Kd.R_told (Kd.R_old (rr HO422.out) hb) (Kd.R_base ho1)) (Kd.R_base ho3)) (fun _ h_=>h_.1)),kl (kn ho0 HO412) HB,kl (kn (kn ho1 HO415) HO422) HB,kl (kn ho2 HO418) HB,kl (kn (kn ho3 HO415) HO422) HB,kb BK407 hb,kb BK408 hb,kb BK444 hb,kh HB hb⟩
  clear HO412 HO415 HO418 HO422 BK407 BK408 BK444 HB
  obtain ⟨HO412,HO415,HO418,HO422,HO432,HO435,HO438,HO442,BK407,BK408,BK444,HB⟩:=n_
  (try clear hb)
  (try clear hb2)
  (try clear hk)
  (try clear hi)
  (try clear ho0)
  (try clear ho1)
  (try clear ho2)
  (try clear ho3)
  refine hK.out _ _ ⟨ce BK407 0,ce BK407 1,ce BK407 2,ce BK407 3,ce BK407 4,ce BK408 0,ce BK408 1,ce BK408 2,ce BK408 3,ce BK408 4,ce BK408 5,ce BK408 6⟩ (fun hHeld=>?_)
  clear hK K
  refine nv 26 ?_
  refine pv 5 (some 21) 319 rfl rfl HT_ ?_
  refine pv 6 (some 27) 383 rfl rfl HT_ ?_
  refine pv 7 (some 28) 511 rfl rfl HT_ ?_
  exact norm_ (by simp only [putAll,Act.put,List.setIfInBounds_toArray,List.set_cons_zero,List.set_cons_succ]) (hCont (.slice Ao26 t410.length co26,.slice Ao27 t413.length co27,.slice Ao28 t416.length co28,.slice Ao29 t420.length co29,v431,v434,v437,v441,gb444) _ ⟨hHeld,(rr (Kd.R_mono HO412.out (fun _ hk=>hk.2))),(rn HO415),(rr (Kd.R_mono HO418.out (fun _ hk=>hk.2))),(rn HO422),(rr (Kd.R_mono HO432.out (fun _ hk=>hk.2))),(rn HO435),(rr (Kd.R_mono HO438.out (fun _ hk=>hk.2))),(rn HO442),(rk BK407.out),(rk BK408.out),(rk BK444.out),GW444.out,GE444.out,NB407_444.out,NB444_407.out,NB408_444.out,NB444_408.out,(rb3 GE407.out GE408.out GE444.out HB.out)⟩)
 rintro ⟨v411,v414,v417,v421,v431,v434,v437,v441,gb444⟩ w31 ⟨hS_,h0_,h1_,h2_,h3_,h4_,h5_,h6_,h7_,h8_,h9_,h10_,h11_,h12_,h13_,h14_,h15_,h16_,h17_⟩
 have n0_ : Aside0 (Kd.R k134 134 w31 w.heap.size (fun k_=>some k_ ≠ (v431 : Value).ownBlock) v411 t410):=⟨h0_⟩
 have n1_ : Aside0 (Kd.R (Kd.int .i64) 3 w31 w.heap.size (fun k_=>some k_ ≠ (v421 : Value).ownBlock∧some k_ ≠ (v434 : Value).ownBlock∧some k_ ≠ (v441 : Value).ownBlock) v414 t413):=⟨h1_⟩
 have n2_ : Aside0 (Kd.R k127 127 w31 w.heap.size (fun k_=>some k_ ≠ (v437 : Value).ownBlock) v417 t416):=⟨h2_⟩
 have n3_ : Aside0 (Kd.R (Kd.int .i64) 3 w31 w.heap.size (fun k_=>some k_ ≠ (v414 : Value).ownBlock∧some k_ ≠ (v434 : Value).ownBlock∧some k_ ≠ (v441 : Value).ownBlock) v421 t420):=⟨h3_⟩
 have n4_ : Aside0 (Kd.R k134 134 w31 w.heap.size (fun k_=>some k_ ≠ (v411 : Value).ownBlock) v431 t430):=⟨h4_⟩
 have n5_ : Aside0 (Kd.R (Kd.int .i64) 3 w31 w.heap.size (fun k_=>some k_ ≠ (v414 : Value).ownBlock∧some k_ ≠ (v421 : Value).ownBlock∧some k_ ≠ (v441 : Value).ownBlock) v434 t433):=⟨h5_⟩
 have n6_ : Aside0 (Kd.R k127 127 w31 w.heap.size (fun k_=>some k_ ≠ (v417 : Value).ownBlock) v437 t436):=⟨h6_⟩
 have n7_ : Aside0 (Kd.R (Kd.int .i64) 3 w31 w.heap.size (fun k_=>some k_ ≠ (v414 : Value).ownBlock∧some k_ ≠ (v421 : Value).ownBlock∧some k_ ≠ (v434 : Value).ownBlock) v441 t440):=⟨h7_⟩
 have n8_ : Aside0 (w31.heap[gb407]? = some (.cells #[.slice A0_0 l0_0.length c0_0,.slice A0_1 l0_1.length c0_1,.slice A0_2 l0_2.length c0_2,.int .i64 a0_3,.slice A0_4 l0_4.length c0_4] 45 (0,0))):=⟨h8_⟩
 have n9_ : Aside0 (w31.heap[gb408]? = some (.cells #[.int .i64 a1_0,.int .i64 a1_1,.int .i64 a1_2,.int .i64 a1_3,.int .i64 a1_4,.int .i64 a1_5,.int .i64 a1_6] 107 (0,0))):=⟨h9_⟩
 have n10_ : Aside0 (w31.heap[gb444]? = some (.cells #[.slice none 0 0,.slice none 0 0,.slice none 0 0,.int .i64 0,.slice none 0 0] 51 (0,0))):=⟨h10_⟩
 have n11_ : Aside0 (w.heap.size ≤ gb444):=⟨h11_⟩
 have n12_ : Aside0 (w.heap.size ≤ gb444):=⟨h12_⟩
 have n13_ : Aside0 (gb407 ≠ gb444):=⟨h13_⟩
 have n14_ : Aside0 (gb444 ≠ gb407):=⟨h14_⟩
 have n15_ : Aside0 (gb408 ≠ gb444):=⟨h15_⟩
 have n16_ : Aside0 (gb444 ≠ gb408):=⟨h16_⟩
 have n17_ : Aside0 (Below w.heap.size w w31):=⟨h17_⟩
 clear BK407 BK408 HB h0_ h1_ h2_ h3_ h4_ h5_ h6_ h7_ h8_ h9_ h10_ h11_ h12_ h13_ h14_ h15_ h16_ h17_
 have HO412:=n0_
 have HO415:=n1_
 have HO418:=n2_
 have HO422:=n3_
 have HO432:=n4_
 have HO435:=n5_
 have HO438:=n6_
 have HO442:=n7_
 have BK407:=n8_
 have BK408:=n9_
 have BK444:=n10_
 have GW444:=n11_
 have GE444:=n12_
 have NB407_444:=n13_
 have NB444_407:=n14_
 have NB408_444:=n15_
 have NB444_408:=n16_
 have HB:=n17_
 clear n0_ n1_ n2_ n3_ n4_ n5_ n6_ n7_ n8_ n9_ n10_ n11_ n12_ n13_ n14_ n15_ n16_ n17_
 have hHeld : w31.cell? ⟨gb407,0,none⟩ = some (.slice A0_0 l0_0.length c0_0)∧w31.cell? ⟨gb407,1,none⟩ = some (.slice A0_1 l0_1.length c0_1)∧w31.cell? ⟨gb407,2,none⟩ = some (.slice A0_2 l0_2.length c0_2)∧w31.cell? ⟨gb407,3,none⟩ = some (.int .i64 a0_3)∧w31.cell? ⟨gb407,4,none⟩ = some (.slice A0_4 l0_4.length c0_4)∧w31.cell? ⟨gb408,0,none⟩ = some (.int .i64 a1_0)∧w31.cell? ⟨gb408,1,none⟩ = some (.int .i64 a1_1)∧w31.cell? ⟨gb408,2,none⟩ = some (.int .i64 a1_2)∧w31.cell? ⟨gb408,3,none⟩ = some (.int .i64 a1_3)∧w31.cell? ⟨gb408,4,none⟩ = some (.int .i64 a1_4)∧w31.cell? ⟨gb408,5,none⟩ = some (.int .i64 a1_5)∧w31.cell? ⟨gb408,6,none⟩ = some (.int .i64 a1_6):=hS_
 obtain ⟨Ao32,co32,eo32⟩:=Kd.R_slice HO432.out
 (first | subst eo32 | obtain ⟨rfl,rfl⟩:=se eo32)
 obtain ⟨Ao34,co34,eo34⟩:=Kd.R_slice HO435.out
 (first | subst eo34 | obtain ⟨rfl,rfl⟩:=se eo34)
 obtain ⟨Ao36,co36,eo36⟩:=Kd.R_slice HO438.out
 (first | subst eo36 | obtain ⟨rfl,rfl⟩:=se eo36)
 obtain ⟨Ao39,co39,eo39⟩:=Kd.R_slice HO442.out
 (first | subst eo39 | obtain ⟨rfl,rfl⟩:=se eo39)
 refine norm_ (a':=?_) ?_ ?_
 rotate_left
 ·simp only [putAll,Act.put,List.setIfInBounds_toArray,List.set_cons_zero,List.set_cons_succ]
  rfl
 refine ov 9 none 1023 rfl rfl HT_ (fun K hK=>?_)
 have hs33 : w31.cell? ⟨gb444,0,none⟩ = some (.slice none 0 0):=ce BK444 0
 have hfs33:=blk_frozen BK444.out 0
 have hns33_0:=NB407_444.out
 have hns33_1:=NB408_444.out
 have hms33_0:=NB444_407.out
 have hms33_1:=NB444_408.out
 have hs35 : w31.cell? ⟨gb444,1,none⟩ = some (.slice none 0 0):=ce BK444 1
 have hfs35:=blk_frozen BK444.out 1
 have hns35_0:=NB407_444.out
 have hns35_1:=NB408_444.out
 have hms35_0:=NB444_407.out
 have hms35_1:=NB444_408.out
 have hs37 : w31.cell? ⟨gb444,2,none⟩ = some (.slice none 0 0):=ce BK444 2
 have hfs37:=blk_frozen BK444.out 2
 have hns37_0:=NB407_444.out
 have hns37_1:=NB408_444.out
 have hms37_0:=NB444_407.out
 have hms37_1:=NB444_408.out
 have hs38 : w31.cell? ⟨gb444,3,none⟩ = some (.int .i64 0):=ce BK444 3
 have hfs38:=blk_frozen BK444.out 3
 have hns38_0:=NB407_444.out
 have hns38_1:=NB408_444.out
 have hms38_0:=NB444_407.out
 have hms38_1:=NB444_408.out
 have hs40 : w31.cell? ⟨gb444,4,none⟩ = some (.slice none 0 0):=ce BK444 4
 have hfs40:=blk_frozen BK444.out 4
 have hns40_0:=NB407_444.out
 have hns40_1:=NB408_444.out
 have hms40_0:=NB444_407.out
 have hms40_1:=NB444_408.out
 refine skip_ (w1:=?_) (by rfl) rfl ?_ ?_
 rotate_left
 ·go_simp
  rfl
 refine hK.out _ _ ⟨((cell_far (p:=⟨gb444,_,none⟩) NB407_444.out _).trans (((cell_far (p:=⟨gb444,_,none⟩) NB407_444.out _).trans (((cell_far (p:=⟨gb444,_,none⟩) NB407_444.out _).trans (((cell_far (p:=⟨gb444,_,none⟩) NB407_444.out _).trans (((cell_far (p:=⟨gb444,_,none⟩) NB407_444.out _).trans (hHeld.1)))))))))),((cell_far (p:=⟨gb444,_,none⟩) NB407_444.out _).trans (((cell_far (p:=⟨gb444,_,none⟩) NB407_444.out _).trans (((cell_far (p:=⟨gb444,_,none⟩) NB407_444.out _).trans (((cell_far (p:=⟨gb444,_,none⟩) NB407_444.out _).trans (((cell_far (p:=⟨gb444,_,none⟩) NB407_444.out _).trans (hHeld.2.1)))))))))),((cell_far (p:=⟨gb444,_,none⟩) NB407_444.out _).trans (((cell_far (p:=⟨gb444,_,none⟩) NB407_444.out _).trans (((cell_far (p:=⟨gb444,_,none⟩) NB407_444.out _).trans (((cell_far (p:=⟨gb444,_,none⟩) NB407_444.out _).trans (((cell_far (p:=⟨gb444,_,none⟩) NB407_444.out _).trans (hHeld.2.2.1)))))))))),((cell_far (p:=⟨gb444,_,none⟩) NB407_444.out _).trans (((cell_far (p:=⟨gb444,_,none⟩) NB407_444.out _).trans (((cell_far (p:=⟨gb444,_,none⟩) NB407_444.out _).trans (((cell_far (p:=⟨gb444,_,none⟩) NB407_444.out _).trans (((cell_far (p:=⟨gb444,_,none⟩) NB407_444.out _).trans (hHeld.2.2.2.1)))))))))),((cell_far (p:=⟨gb444,_,none⟩) NB407_444.out _).trans (((cell_far (p:=⟨gb444,_,none⟩) NB407_444.out _).trans (((cell_far (p:=⟨gb444,_,none⟩) NB407_444.out _).trans (((cell_far (p:=⟨gb444,_,none⟩) NB407_444.out _).trans (((cell_far (p:=⟨gb444,_,none⟩) NB407_444.out _).trans (hHeld.2.2.2.2.1)))))))))),((cell_far (p:=⟨gb444,_,none⟩) NB408_444.out _).trans (((cell_far (p:=⟨gb444,_,none⟩) NB408_444.out _).trans (((cell_far (p:=⟨gb444,_,none⟩) NB408_444.out _).trans (((cell_far (p:=⟨gb444,_,none⟩) NB408_444.out _).trans (((cell_far (p:=⟨gb444,_,none⟩) NB408_444.out _).trans (hHeld.2.2.2.2.2.1)))))))))),((cell_far (p:=⟨gb444,_,none⟩) NB408_444.out _).trans (((cell_far (p:=⟨gb444,_,none⟩) NB408_444.out _).trans (((cell_far (p:=⟨gb444,_,none⟩) NB408_444.out _).trans (((cell_far (p:=⟨gb444,_,none⟩) NB408_444.out _).trans (((cell_far (p:=⟨gb444,_,none⟩) NB408_444.out _).trans (hHeld.2.2.2.2.2.2.1)))))))))),((cell_far (p:=⟨gb444,_,none⟩) NB408_444.out _).trans (((cell_far (p:=⟨gb444,_,none⟩) NB408_444.out _).trans (((cell_far (p:=⟨gb444,_,none⟩) NB408_444.out _).trans (((cell_far (p:=⟨gb444,_,none⟩) NB408_444.out _).trans (((cell_far (p:=⟨gb444,_,none⟩) NB408_444.out _).trans (hHeld.2.2.2.2.2.2.2.1)))))))))),((cell_far (p:=⟨gb444,_,none⟩) NB408_444.out _).trans (((cell_far (p:=⟨gb444,_,none⟩) NB408_444.out _).trans (((cell_far (p:=⟨gb444,_,none⟩) NB408_444.out _).trans (((cell_far (p:=⟨gb444,_,none⟩) NB408_444.out _).trans (((cell_far (p:=⟨gb444,_,none⟩) NB408_444.out _).trans (hHeld.2.2.2.2.2.2.2.2.1)))))))))),((cell_far (p:=⟨gb444,_,none⟩) NB408_444.out _).trans (((cell_far (p:=⟨gb444,_,none⟩) NB408_444.out _).trans (((cell_far (p:=⟨gb444,_,none⟩) NB408_444.out _).trans (((cell_far (p:=⟨gb444,_,none⟩) NB408_444.out _).trans (((cell_far (p:=⟨gb444,_,none⟩) NB408_444.out _).trans (hHeld.2.2.2.2.2.2.2.2.2.1)))))))))),((cell_far (p:=⟨gb444,_,none⟩) NB408_444.out _).trans (((cell_far (p:=⟨gb444,_,none⟩) NB408_444.out _).trans (((cell_far (p:=⟨gb444,_,none⟩) NB408_444.out _).trans (((cell_far (p:=⟨gb444,_,none⟩) NB408_444.out _).trans (((cell_far (p:=⟨gb444,_,none⟩) NB408_444.out _).trans (hHeld.2.2.2.2.2.2.2.2.2.2.1)))))))))),((cell_far (p:=⟨gb444,_,none⟩) NB408_444.out _).trans (((cell_far (p:=⟨gb444,_,none⟩) NB408_444.out _).trans (((cell_far (p:=⟨gb444,_,none⟩) NB408_444.out _).trans (((cell_far (p:=⟨gb444,_,none⟩) NB408_444.out _).trans (((cell_far (p:=⟨gb444,_,none⟩) NB408_444.out _).trans (hHeld.2.2.2.2.2.2.2.2.2.2.2))))))))))⟩ (fun hHeld=>?_)
 clear hK K
 refine pv 10 (some 7) 2047 rfl rfl HT_ ?_
 refine done_ (done_of HT_.out (by kernel_rfl)) ?_
 have hnb41:=NB407_444.out
 have hnc41:=NB444_407.out
 have hz42:=bc5 BK407
 try go_wp2_with (first | ((with_reducible refine gc (f:=25) rfl ?_);refine gl (some 30) Try.func25 #[.agg #[.slice A0_0 l0_0.length c0_0,.slice A0_1 l0_1.length c0_1,.slice A0_2 l0_2.length c0_2,.int .i64 a0_3,.slice A0_4 l0_4.length c0_4]] ?_;(with_reducible refine (laws_toKeeper.calls k _ _ l0_0 _ _ l0_1 _ _ l0_2 a0_3 _ _ l0_4 t445 t448 t451 t454 t455 _ ?side1 ?side2 ?side3 ?side4 ?side5 ?side6 ?side7 ?side8 A13.out).mono ?_);(case side1=>exact Kd.C_below HR0_0.out (rb3 GE407.out GE408.out GE444.out HB.out));(case side2=>exact HC0_0.out);(case side3=>exact Kd.C_below HR0_1.out (rb3 GE407.out GE408.out GE444.out HB.out));(case side4=>exact HC0_1.out);(case side5=>exact Kd.C_below HR0_2.out (rb3 GE407.out GE408.out GE444.out HB.out));(case side6=>exact HC0_2.out);(case side7=>exact Kd.C_below HR0_4.out (rb3 GE407.out GE408.out GE444.out HB.out));(case side8=>exact HC0_4.out);rintro e w43 ⟨v446,v449,v452,v456,rfl,ho0,ho1,ho2,ho3,hb⟩;refine ⟨_,rfl,?_⟩;have n_ : _∧_∧_∧_∧_∧_∧_∧_∧_∧_∧_∧_∧_∧_∧_∧_:=⟨kef HO412 ho0 hb,ak (Kd.R_mono (Kd.R_told (Kd.R_told (Kd.R_old (rfa HO415) hb) (Kd.R_base ho1)) (Kd.R_base ho3)) (fun _ h_=>h_.1)),kef HO418 ho2 hb,ak (Kd.R_mono (Kd.R_told (Kd.R_told (Kd.R_old (rfa HO422) hb) (Kd.R_base ho1)) (Kd.R_base ho3)) (fun _ h_=>h_.1)),kef HO432 ho0 hb,ak (Kd.R_mono (Kd.R_told (Kd.R_told (Kd.R_old (rfa HO435) hb) (Kd.R_base ho1)) (Kd.R_base ho3)) (fun _ h_=>h_.1)),kef HO438 ho2 hb,ak (Kd.R_mono (Kd.R_told (Kd.R_told (Kd.R_old (rfa HO442) hb) (Kd.R_base ho1)) (Kd.R_base ho3)) (fun _ h_=>h_.1)),kl (knf (knf ho0 HO412) HO432) HB,kl (knf (knf (knf (knf ho1 HO415) HO422) HO435) HO442) HB,kl (knf (knf ho2 HO418) HO438) HB,kl (knf (knf (knf (knf ho3 HO415) HO422) HO435) HO442) HB,kp #[.slice A0_0 l0_0.length c0_0,.slice A0_1 l0_1.length c0_1,.slice A0_2 l0_2.length c0_2,.int .i64 a0_3,.slice A0_4 l0_4.length c0_4] BK407 hb,kp #[.int .i64 a1_0,.int .i64 a1_1,.int .i64 a1_2,.int .i64 a1_3,.int .i64 a1_4,.int .i64 a1_5,.int .i64 a1_6] BK408 hb,kp #[.slice Ao32 t430.length co32,.slice Ao34 t433.length co34,.slice Ao36 t436.length co36,.int .i64 t439,.slice Ao39 t440.length co39] BK444 hb,kh HB hb⟩;clear HO412 HO415 HO418 HO422 HO432 HO435 HO438 HO442 BK407 BK408 BK444 HB;obtain ⟨HO412,HO415,HO418,HO422,HO432,HO435,HO438,HO442,HO447,HO450,HO453,HO457,BK407,BK408,BK444,HB⟩:=n_;(try clear ho2);(try clear ho3)) | ((with_reducible refine gate_dst (N:=8) rfl ?_);refine box_event ?hg (N:=8) ?hd (cs:=#[.slice none 0 0,.slice none 0 0,.slice none 0 0,.int .i64 0,.slice none 0 0]) (t:=51) ?hr ?_;(case hd=>rfl);(case hg=>rfl);(case hr=>first | (go_simp;done) | (go_simp;rfl));intro gb458 hg w44 hbox hb;have n_ : _∧_∧_∧_∧_∧_∧_∧_∧_∧_∧_∧_∧_∧_∧_∧_∧_∧_∧_∧_∧_∧_∧_∧_∧_:=⟨ka HO412 hb,ka HO415 hb,ka HO418 hb,ka HO422 hb,ka HO432 hb,ka HO435 hb,ka HO438 hb,ka HO442 hb,ka HO447 hb,ka HO450 hb,ka HO453 hb,ka HO457 hb,kb BK407 hb,kb BK408 hb,kb BK444 hb,kh HB hb,ak (hbox),kz HB hg,kz HB hg,nl BK407 hg,ng BK407 hg,nl BK408 hg,ng BK408 hg,nl BK444 hg,ng BK444 hg⟩;clear HO412 HO415 HO418 HO422 HO432 HO435 HO438 HO442 HO447 HO450 HO453 HO457 BK407 BK408 BK444 HB hb hbox hg;obtain ⟨HO412,HO415,HO418,HO422,HO432,HO435,HO438,HO442,HO447,HO450,HO453,HO457,BK407,BK408,BK444,HB,BK458,GW458,GE458,NB407_458,NB458_407,NB408_458,NB458_408,NB444_458,NB458_444⟩:=n_;obtain ⟨Ao45,co45,eo45⟩:=Kd.R_slice HO447.out;subst eo45;have hnb46:=NB458_407.out;have hnc46:=NB407_458.out;have hnb47:=NB458_408.out;have hnc47:=NB408_458.out;have hnb48:=NB458_444.out;have hnc48:=NB444_458.out;have hcz49_0 : w44.cell? ⟨gb458,0,none⟩ = some (.slice none 0 0):=ce BK458 0;have hcz49_1 : w44.cell? ⟨gb458,1,none⟩ = some (.slice none 0 0):=ce BK458 1;have hcz49_2 : w44.cell? ⟨gb458,2,none⟩ = some (.slice none 0 0):=ce BK458 2;have hcz49_3 : w44.cell? ⟨gb458,3,none⟩ = some (.int .i64 0):=ce BK458 3;have hcz49_4 : w44.cell? ⟨gb458,4,none⟩ = some (.slice none 0 0):=ce BK458 4;have hfz49_0:=blk_frozen BK458.out 0;have hfz49_1:=blk_frozen BK458.out 1;have hfz49_2:=blk_frozen BK458.out 2;have hfz49_3:=blk_frozen BK458.out 3;have hfz49_4:=blk_frozen BK458.out 4;obtain ⟨Ao50,co50,eo50⟩:=Kd.R_slice HO450.out;subst eo50;obtain ⟨Ao51,co51,eo51⟩:=Kd.R_slice HO453.out;subst eo51;obtain ⟨Ao52,co52,eo52⟩:=Kd.R_slice HO457.out;subst eo52))
 have n0_ : Aside0 (Kd.R k134 134 (((((w44.setCell ⟨gb458,0,none⟩ (.slice Ao45 t445.length co45)).setCell ⟨gb458,1,none⟩ (.slice Ao50 t448.length co50)).setCell ⟨gb458,2,none⟩ (.slice Ao51 t451.length co51)).setCell ⟨gb458,3,none⟩ (.int .i64 t454)).setCell ⟨gb458,4,none⟩ (.slice Ao52 t455.length co52)) w.heap.size (fun k_=>some k_ ≠ (.slice Ao32 t430.length co32 : Value).ownBlock∧some k_ ≠ (.slice Ao45 t445.length co45 : Value).ownBlock) v411 t410):=⟨rfa HO412⟩
 have n1_ : Aside0 (Kd.R (Kd.int .i64) 3 (((((w44.setCell ⟨gb458,0,none⟩ (.slice Ao45 t445.length co45)).setCell ⟨gb458,1,none⟩ (.slice Ao50 t448.length co50)).setCell ⟨gb458,2,none⟩ (.slice Ao51 t451.length co51)).setCell ⟨gb458,3,none⟩ (.int .i64 t454)).setCell ⟨gb458,4,none⟩ (.slice Ao52 t455.length co52)) w.heap.size (fun k_=>some k_ ≠ (v421 : Value).ownBlock∧some k_ ≠ (.slice Ao34 t433.length co34 : Value).ownBlock∧some k_ ≠ (.slice Ao39 t440.length co39 : Value).ownBlock∧some k_ ≠ (.slice Ao50 t448.length co50 : Value).ownBlock∧some k_ ≠ (.slice Ao52 t455.length co52 : Value).ownBlock) v414 t413):=⟨rfa HO415⟩
 have n2_ : Aside0 (Kd.R k127 127 (((((w44.setCell ⟨gb458,0,none⟩ (.slice Ao45 t445.length co45)).setCell ⟨gb458,1,none⟩ (.slice Ao50 t448.length co50)).setCell ⟨gb458,2,none⟩ (.slice Ao51 t451.length co51)).setCell ⟨gb458,3,none⟩ (.int .i64 t454)).setCell ⟨gb458,4,none⟩ (.slice Ao52 t455.length co52)) w.heap.size (fun k_=>some k_ ≠ (.slice Ao36 t436.length co36 : Value).ownBlock∧some k_ ≠ (.slice Ao51 t451.length co51 : Value).ownBlock) v417 t416):=⟨rfa HO418⟩
 have n3_ : Aside0 (Kd.R (Kd.int .i64) 3 (((((w44.setCell ⟨gb458,0,none⟩ (.slice Ao45 t445.length co45)).setCell ⟨gb458,1,none⟩ (.slice Ao50 t448.length co50)).setCell ⟨gb458,2,none⟩ (.slice Ao51 t451.length co51)).setCell ⟨gb458,3,none⟩ (.int .i64 t454)).setCell ⟨gb458,4,none⟩ (.slice Ao52 t455.length co52)) w.heap.size (fun k_=>some k_ ≠ (v414 : Value).ownBlock∧some k_ ≠ (.slice Ao34 t433.length co34 : Value).ownBlock∧some k_ ≠ (.slice Ao39 t440.length co39 : Value).ownBlock∧some k_ ≠ (.slice Ao50 t448.length co50 : Value).ownBlock∧some k_ ≠ (.slice Ao52 t455.length co52 : Value).ownBlock) v421 t420):=⟨rfa HO422⟩
 have n4_ : Aside0 (Kd.R k134 134 (((((w44.setCell ⟨gb458,0,none⟩ (.slice Ao45 t445.length co45)).setCell ⟨gb458,1,none⟩ (.slice Ao50 t448.length co50)).setCell ⟨gb458,2,none⟩ (.slice Ao51 t451.length co51)).setCell ⟨gb458,3,none⟩ (.int .i64 t454)).setCell ⟨gb458,4,none⟩ (.slice Ao52 t455.length co52)) w.heap.size (fun k_=>some k_ ≠ (v411 : Value).ownBlock∧some k_ ≠ (.slice Ao45 t445.length co45 : Value).ownBlock) (.slice Ao32 t430.length co32) t430):=⟨rfa HO432⟩
 have n5_ : Aside0 (Kd.R (Kd.int .i64) 3 (((((w44.setCell ⟨gb458,0,none⟩ (.slice Ao45 t445.length co45)).setCell ⟨gb458,1,none⟩ (.slice Ao50 t448.length co50)).setCell ⟨gb458,2,none⟩ (.slice Ao51 t451.length co51)).setCell ⟨gb458,3,none⟩ (.int .i64 t454)).setCell ⟨gb458,4,none⟩ (.slice Ao52 t455.length co52)) w.heap.size (fun k_=>some k_ ≠ (v414 : Value).ownBlock∧some k_ ≠ (v421 : Value).ownBlock∧some k_ ≠ (.slice Ao39 t440.length co39 : Value).ownBlock∧some k_ ≠ (.slice Ao50 t448.length co50 : Value).ownBlock∧some k_ ≠ (.slice Ao52 t455.length co52 : Value).ownBlock) (.slice Ao34 t433.length co34) t433):=⟨rfa HO435⟩
 have n6_ : Aside0 (Kd.R k127 127 (((((w44.setCell ⟨gb458,0,none⟩ (.slice Ao45 t445.length co45)).setCell ⟨gb458,1,none⟩ (.slice Ao50 t448.length co50)).setCell ⟨gb458,2,none⟩ (.slice Ao51 t451.length co51)).setCell ⟨gb458,3,none⟩ (.int .i64 t454)).setCell ⟨gb458,4,none⟩ (.slice Ao52 t455.length co52)) w.heap.size (fun k_=>some k_ ≠ (v417 : Value).ownBlock∧some k_ ≠ (.slice Ao51 t451.length co51 : Value).ownBlock) (.slice Ao36 t436.length co36) t436):=⟨rfa HO438⟩
 have n7_ : Aside0 (Kd.R (Kd.int .i64) 3 (((((w44.setCell ⟨gb458,0,none⟩ (.slice Ao45 t445.length co45)).setCell ⟨gb458,1,none⟩ (.slice Ao50 t448.length co50)).setCell ⟨gb458,2,none⟩ (.slice Ao51 t451.length co51)).setCell ⟨gb458,3,none⟩ (.int .i64 t454)).setCell ⟨gb458,4,none⟩ (.slice Ao52 t455.length co52)) w.heap.size (fun k_=>some k_ ≠ (v414 : Value).ownBlock∧some k_ ≠ (v421 : Value).ownBlock∧some k_ ≠ (.slice Ao34 t433.length co34 : Value).ownBlock∧some k_ ≠ (.slice Ao50 t448.length co50 : Value).ownBlock∧some k_ ≠ (.slice Ao52 t455.length co52 : Value).ownBlock) (.slice Ao39 t440.length co39) t440):=⟨rfa HO442⟩
 have n8_ : Aside0 (Kd.R k134 134 (((((w44.setCell ⟨gb458,0,none⟩ (.slice Ao45 t445.length co45)).setCell ⟨gb458,1,none⟩ (.slice Ao50 t448.length co50)).setCell ⟨gb458,2,none⟩ (.slice Ao51 t451.length co51)).setCell ⟨gb458,3,none⟩ (.int .i64 t454)).setCell ⟨gb458,4,none⟩ (.slice Ao52 t455.length co52)) w.heap.size (fun k_=>some k_ ≠ (v411 : Value).ownBlock∧some k_ ≠ (.slice Ao32 t430.length co32 : Value).ownBlock) (.slice Ao45 t445.length co45) t445):=⟨rfa HO447⟩
 have n9_ : Aside0 (Kd.R (Kd.int .i64) 3 (((((w44.setCell ⟨gb458,0,none⟩ (.slice Ao45 t445.length co45)).setCell ⟨gb458,1,none⟩ (.slice Ao50 t448.length co50)).setCell ⟨gb458,2,none⟩ (.slice Ao51 t451.length co51)).setCell ⟨gb458,3,none⟩ (.int .i64 t454)).setCell ⟨gb458,4,none⟩ (.slice Ao52 t455.length co52)) w.heap.size (fun k_=>some k_ ≠ (v414 : Value).ownBlock∧some k_ ≠ (v421 : Value).ownBlock∧some k_ ≠ (.slice Ao34 t433.length co34 : Value).ownBlock∧some k_ ≠ (.slice Ao39 t440.length co39 : Value).ownBlock∧some k_ ≠ (.slice Ao52 t455.length co52 : Value).ownBlock) (.slice Ao50 t448.length co50) t448):=⟨rfa HO450⟩
 have n10_ : Aside0 (Kd.R k127 127 (((((w44.setCell ⟨gb458,0,none⟩ (.slice Ao45 t445.length co45)).setCell ⟨gb458,1,none⟩ (.slice Ao50 t448.length co50)).setCell ⟨gb458,2,none⟩ (.slice Ao51 t451.length co51)).setCell ⟨gb458,3,none⟩ (.int .i64 t454)).setCell ⟨gb458,4,none⟩ (.slice Ao52 t455.length co52)) w.heap.size (fun k_=>some k_ ≠ (v417 : Value).ownBlock∧some k_ ≠ (.slice Ao36 t436.length co36 : Value).ownBlock) (.slice Ao51 t451.length co51) t451):=⟨rfa HO453⟩
 have n11_ : Aside0 (Kd.R (Kd.int .i64) 3 (((((w44.setCell ⟨gb458,0,none⟩ (.slice Ao45 t445.length co45)).setCell ⟨gb458,1,none⟩ (.slice Ao50 t448.length co50)).setCell ⟨gb458,2,none⟩ (.slice Ao51 t451.length co51)).setCell ⟨gb458,3,none⟩ (.int .i64 t454)).setCell ⟨gb458,4,none⟩ (.slice Ao52 t455.length co52)) w.heap.size (fun k_=>some k_ ≠ (v414 : Value).ownBlock∧some k_ ≠ (v421 : Value).ownBlock∧some k_ ≠ (.slice Ao34 t433.length co34 : Value).ownBlock∧some k_ ≠ (.slice Ao39 t440.length co39 : Value).ownBlock∧some k_ ≠ (.slice Ao50 t448.length co50 : Value).ownBlock) (.slice Ao52 t455.length co52) t455):=⟨rfa HO457⟩
 have n12_ : Aside0 ((((((w44.setCell ⟨gb458,0,none⟩ (.slice Ao45 t445.length co45)).setCell ⟨gb458,1,none⟩ (.slice Ao50 t448.length co50)).setCell ⟨gb458,2,none⟩ (.slice Ao51 t451.length co51)).setCell ⟨gb458,3,none⟩ (.int .i64 t454)).setCell ⟨gb458,4,none⟩ (.slice Ao52 t455.length co52)).heap[gb407]? = some (.cells #[.slice A0_0 l0_0.length c0_0,.slice A0_1 l0_1.length c0_1,.slice A0_2 l0_2.length c0_2,.int .i64 a0_3,.slice A0_4 l0_4.length c0_4] 45 (0,0))):=⟨by (with_reducible repeat (first | refine blk_drewN ?_ _ | refine blk_drew ?_ | refine blk_alloc ?_ _));refine blk_far ?_ NB407_458.out _;(with_reducible repeat (first | refine blk_drewN ?_ _ | refine blk_drew ?_ | refine blk_alloc ?_ _));refine blk_far ?_ NB407_458.out _;(with_reducible repeat (first | refine blk_drewN ?_ _ | refine blk_drew ?_ | refine blk_alloc ?_ _));refine blk_far ?_ NB407_458.out _;(with_reducible repeat (first | refine blk_drewN ?_ _ | refine blk_drew ?_ | refine blk_alloc ?_ _));refine blk_far ?_ NB407_458.out _;(with_reducible repeat (first | refine blk_drewN ?_ _ | refine blk_drew ?_ | refine blk_alloc ?_ _));refine blk_far ?_ NB407_458.out _;(with_reducible repeat (first | refine blk_drewN ?_ _ | refine blk_drew ?_ | refine blk_alloc ?_ _));exact BK407.out⟩
 have n13_ : Aside0 ((((((w44.setCell ⟨gb458,0,none⟩ (.slice Ao45 t445.length co45)).setCell ⟨gb458,1,none⟩ (.slice Ao50 t448.length co50)).setCell ⟨gb458,2,none⟩ (.slice Ao51 t451.length co51)).setCell ⟨gb458,3,none⟩ (.int .i64 t454)).setCell ⟨gb458,4,none⟩ (.slice Ao52 t455.length co52)).heap[gb408]? = some (.cells #[.int .i64 a1_0,.int .i64 a1_1,.int .i64 a1_2,.int .i64 a1_3,.int .i64 a1_4,.int .i64 a1_5,.int .i64 a1_6] 107 (0,0))):=⟨by (with_reducible repeat (first | refine blk_drewN ?_ _ | refine blk_drew ?_ | refine blk_alloc ?_ _));refine blk_far ?_ NB408_458.out _;(with_reducible repeat (first | refine blk_drewN ?_ _ | refine blk_drew ?_ | refine blk_alloc ?_ _));refine blk_far ?_ NB408_458.out _;(with_reducible repeat (first | refine blk_drewN ?_ _ | refine blk_drew ?_ | refine blk_alloc ?_ _));refine blk_far ?_ NB408_458.out _;(with_reducible repeat (first | refine blk_drewN ?_ _ | refine blk_drew ?_ | refine blk_alloc ?_ _));refine blk_far ?_ NB408_458.out _;(with_reducible repeat (first | refine blk_drewN ?_ _ | refine blk_drew ?_ | refine blk_alloc ?_ _));refine blk_far ?_ NB408_458.out _;(with_reducible repeat (first | refine blk_drewN ?_ _ | refine blk_drew ?_ | refine blk_alloc ?_ _));exact BK408.out⟩
 have n14_ : Aside0 ((((((w44.setCell ⟨gb458,0,none⟩ (.slice Ao45 t445.length co45)).setCell ⟨gb458,1,none⟩ (.slice Ao50 t448.length co50)).setCell ⟨gb458,2,none⟩ (.slice Ao51 t451.length co51)).setCell ⟨gb458,3,none⟩ (.int .i64 t454)).setCell ⟨gb458,4,none⟩ (.slice Ao52 t455.length co52)).heap[gb444]? = some (.cells #[.slice Ao32 t430.length co32,.slice Ao34 t433.length co34,.slice Ao36 t436.length co36,.int .i64 t439,.slice Ao39 t440.length co39] 51 (0,0))):=⟨by (with_reducible repeat (first | refine blk_drewN ?_ _ | refine blk_drew ?_ | refine blk_alloc ?_ _));refine blk_far ?_ NB444_458.out _;(with_reducible repeat (first | refine blk_drewN ?_ _ | refine blk_drew ?_ | refine blk_alloc ?_ _));refine blk_far ?_ NB444_458.out _;(with_reducible repeat (first | refine blk_drewN ?_ _ | refine blk_drew ?_ | refine blk_alloc ?_ _));refine blk_far ?_ NB444_458.out _;(with_reducible repeat (first | refine blk_drewN ?_ _ | refine blk_drew ?_ | refine blk_alloc ?_ _));refine blk_far ?_ NB444_458.out _;(with_reducible repeat (first | refine blk_drewN ?_ _ | refine blk_drew ?_ | refine blk_alloc ?_ _));refine blk_far ?_ NB444_458.out _;(with_reducible repeat (first | refine blk_drewN ?_ _ | refine blk_drew ?_ | refine blk_alloc ?_ _));exact BK444.out⟩
 have n15_ : Aside0 ((((((w44.setCell ⟨gb458,0,none⟩ (.slice Ao45 t445.length co45)).setCell ⟨gb458,1,none⟩ (.slice Ao50 t448.length co50)).setCell ⟨gb458,2,none⟩ (.slice Ao51 t451.length co51)).setCell ⟨gb458,3,none⟩ (.int .i64 t454)).setCell ⟨gb458,4,none⟩ (.slice Ao52 t455.length co52)).heap[gb458]? = some (.cells #[.slice Ao45 t445.length co45,.slice Ao50 t448.length co50,.slice Ao51 t451.length co51,.int .i64 t454,.slice Ao52 t455.length co52] 51 (0,0))):=⟨by (with_reducible repeat (first | refine blk_drewN ?_ _ | refine blk_drew ?_ | refine blk_alloc ?_ _));refine blk_put (cs:=#[.slice Ao45 t445.length co45,.slice Ao50 t448.length co50,.slice Ao51 t451.length co51,.int .i64 t454,.slice none 0 0]) ?_ 4 _ rfl;(with_reducible repeat (first | refine blk_drewN ?_ _ | refine blk_drew ?_ | refine blk_alloc ?_ _));refine blk_put (cs:=#[.slice Ao45 t445.length co45,.slice Ao50 t448.length co50,.slice Ao51 t451.length co51,.int .i64 0,.slice none 0 0]) ?_ 3 _ rfl;(with_reducible repeat (first | refine blk_drewN ?_ _ | refine blk_drew ?_ | refine blk_alloc ?_ _));refine blk_put (cs:=#[.slice Ao45 t445.length co45,.slice Ao50 t448.length co50,.slice none 0 0,.int .i64 0,.slice none 0 0]) ?_ 2 _ rfl;(with_reducible repeat (first | refine blk_drewN ?_ _ | refine blk_drew ?_ | refine blk_alloc ?_ _));refine blk_put (cs:=#[.slice Ao45 t445.length co45,.slice none 0 0,.slice none 0 0,.int .i64 0,.slice none 0 0]) ?_ 1 _ rfl;(with_reducible repeat (first | refine blk_drewN ?_ _ | refine blk_drew ?_ | refine blk_alloc ?_ _));refine blk_put (cs:=#[.slice none 0 0,.slice none 0 0,.slice none 0 0,.int .i64 0,.slice none 0 0]) ?_ 0 _ rfl;(with_reducible repeat (first | refine blk_drewN ?_ _ | refine blk_drew ?_ | refine blk_alloc ?_ _));exact BK458.out⟩
 have n16_ : Aside0 (Below w.heap.size w (((((w44.setCell ⟨gb458,0,none⟩ (.slice Ao45 t445.length co45)).setCell ⟨gb458,1,none⟩ (.slice Ao50 t448.length co50)).setCell ⟨gb458,2,none⟩ (.slice Ao51 t451.length co51)).setCell ⟨gb458,3,none⟩ (.int .i64 t454)).setCell ⟨gb458,4,none⟩ (.slice Ao52 t455.length co52))):=⟨rbx HB⟩
 (try clear HO412)
 (try clear HO415)
 (try clear HO418)
 (try clear HO422)
 (try clear HO432)
 (try clear HO435)
 (try clear HO438)
 (try clear HO442)
 (try clear HO447)
 (try clear HO450)
 (try clear HO453)
 (try clear HO457)
 (try clear BK407)
 (try clear BK408)
 (try clear BK444)
 (try clear BK458)
 (try clear HB)
 generalize (((((w44.setCell ⟨gb458,0,none⟩ (.slice Ao45 t445.length co45)).setCell ⟨gb458,1,none⟩ (.slice Ao50 t448.length co50)).setCell ⟨gb458,2,none⟩ (.slice Ao51 t451.length co51)).setCell ⟨gb458,3,none⟩ (.int .i64 t454)).setCell ⟨gb458,4,none⟩ (.slice Ao52 t455.length co52)) = w53 at n0_ n1_ n2_ n3_ n4_ n5_ n6_ n7_ n8_ n9_ n10_ n11_ n12_ n13_ n14_ n15_ n16_ ⊢
 have HO412:=n0_
 have HO415:=n1_
 have HO418:=n2_
 have HO422:=n3_
 have HO432:=n4_
 have HO435:=n5_
 have HO438:=n6_
 have HO442:=n7_
 have HO447:=n8_
 have HO450:=n9_
 have HO453:=n10_
 have HO457:=n11_
 have BK407:=n12_
 have BK408:=n13_
 have BK444:=n14_
 have BK458:=n15_
 have HB:=n16_
 clear n0_ n1_ n2_ n3_ n4_ n5_ n6_ n7_ n8_ n9_ n10_ n11_ n12_ n13_ n14_ n15_ n16_
 have n_ : _∧_∧_∧_∧_∧_∧_∧_∧_∧_∧_∧_∧_∧_∧_∧_∧_:=⟨ak (Kd.R_drew HO412.out),ak (Kd.R_drew HO415.out),ak (Kd.R_drew HO418.out),ak (Kd.R_drew HO422.out),ak (Kd.R_drew HO432.out),ak (Kd.R_drew HO435.out),ak (Kd.R_drew HO438.out),ak (Kd.R_drew HO442.out),ak (Kd.R_drew HO447.out),ak (Kd.R_drew HO450.out),ak (Kd.R_drew HO453.out),ak (Kd.R_drew HO457.out),ak (blk_drew BK407.out),ak (blk_drew BK408.out),ak (blk_drew BK444.out),ak (blk_drew BK458.out),ak (below_drew1 HB.out)⟩
 clear HO412 HO415 HO418 HO422 HO432 HO435 HO438 HO442 HO447 HO450 HO453 HO457 BK407 BK408 BK444 BK458 HB
 obtain ⟨HO412,HO415,HO418,HO422,HO432,HO435,HO438,HO442,HO447,HO450,HO453,HO457,BK407,BK408,BK444,BK458,HB⟩:=n_
 refine start_ (n:=10) (S:=fun w'=>w'.cell? ⟨gb458,0,none⟩ = some (.slice Ao45 t445.length co45)∧w'.cell? ⟨gb458,1,none⟩ = some (.slice Ao50 t448.length co50)∧w'.cell? ⟨gb458,2,none⟩ = some (.slice Ao51 t451.length co51)∧w'.cell? ⟨gb458,3,none⟩ = some (.int .i64 t454)∧w'.cell? ⟨gb458,4,none⟩ = some (.slice Ao52 t455.length co52)∧w'.cell? ⟨gb408,0,none⟩ = some (.int .i64 a1_0)∧w'.cell? ⟨gb408,1,none⟩ = some (.int .i64 a1_1)∧w'.cell? ⟨gb408,2,none⟩ = some (.int .i64 a1_2)∧w'.cell? ⟨gb408,3,none⟩ = some (.int .i64 a1_3)∧w'.cell? ⟨gb408,4,none⟩ = some (.int .i64 a1_4)∧w'.cell? ⟨gb408,5,none⟩ = some (.int .i64 a1_5)∧w'.cell? ⟨gb408,6,none⟩ = some (.int .i64 a1_6)) (ds:=[]) (lb 10 0) (by kernel_rfl) rfl (by kernel_rfl) ⟨ce BK458 0,ce BK458 1,ce BK458 2,ce BK458 3,ce BK458 4,ce BK408 0,ce BK408 1,ce BK408 2,ce BK408 3,ce BK408 4,ce BK408 5,ce BK408 6⟩ (fun hHeld=>?_);refine with_tabW laws_FnExactKept.tab7 laws_FnExactKept.bits7 (fun HT_ HW_=>?_)
 generalize w53.drew = w54 at HO412 HO415 HO418 HO422 HO432 HO435 HO438 HO442 HO447 HO450 HO453 HO457 BK407 BK408 BK444 BK458 HB hHeld ⊢
 refine tv 0 (some 32) 1 rfl rfl HT_ HW_ hHeld ?_
 refine tv 1 (some 33) 3 rfl rfl HT_ HW_ hHeld ?_
 refine join_ (σ:=Value × Value × Value × Value × Nat) 2 (lb 10 255) (fun s_=>[(34,.agg #[.int .i64 t459,.int .i64 t460,.int .i64 t461,.int .i64 t462,.int .i64 t463,.int .i64 t464,.int .i64 t465]),(35,.tuple #[.agg #[s_.1,s_.2.1,s_.2.2.1,.int .i64 t475,s_.2.2.2.1],.bool t479]),(9,.pointer (some ⟨s_.2.2.2.2,0,none⟩)),(31,.tuple #[.agg #[s_.1,s_.2.1,s_.2.2.1,.int .i64 t475,s_.2.2.2.1],.bool t479]),(36,.agg #[s_.1,s_.2.1,s_.2.2.1,.int .i64 t475,s_.2.2.2.1]),(37,.bool t479)]) (fun s_ w'=>(w'.cell? ⟨gb458,0,none⟩ = some (.slice Ao45 t445.length co45)∧w'.cell? ⟨gb458,1,none⟩ = some (.slice Ao50 t448.length co50)∧w'.cell? ⟨gb458,2,none⟩ = some (.slice Ao51 t451.length co51)∧w'.cell? ⟨gb458,3,none⟩ = some (.int .i64 t454)∧w'.cell? ⟨gb458,4,none⟩ = some (.slice Ao52 t455.length co52)∧w'.cell? ⟨gb408,0,none⟩ = some (.int .i64 a1_0)∧w'.cell? ⟨gb408,1,none⟩ = some (.int .i64 a1_1)∧w'.cell? ⟨gb408,2,none⟩ = some (.int .i64 a1_2)∧w'.cell? ⟨gb408,3,none⟩ = some (.int .i64 a1_3)∧w'.cell? ⟨gb408,4,none⟩ = some (.int .i64 a1_4)∧w'.cell? ⟨gb408,5,none⟩ = some (.int .i64 a1_5)∧w'.cell? ⟨gb408,6,none⟩ = some (.int .i64 a1_6))∧(Kd.R k134 134 w' w.heap.size (fun k_=>some k_ ≠ (.slice Ao32 t430.length co32 : Value).ownBlock∧some k_ ≠ (.slice Ao45 t445.length co45 : Value).ownBlock∧some k_ ≠ (s_.1 : Value).ownBlock) v411 t410)∧(Kd.R (Kd.int .i64) 3 w' w.heap.size (fun k_=>some k_ ≠ (v421 : Value).ownBlock∧some k_ ≠ (.slice Ao34 t433.length co34 : Value).ownBlock∧some k_ ≠ (.slice Ao39 t440.length co39 : Value).ownBlock∧some k_ ≠ (.slice Ao50 t448.length co50 : Value).ownBlock∧some k_ ≠ (.slice Ao52 t455.length co52 : Value).ownBlock∧some k_ ≠ (s_.2.1 : Value).ownBlock∧some k_ ≠ (s_.2.2.2.1 : Value).ownBlock) v414 t413)∧(Kd.R k127 127 w' w.heap.size (fun k_=>some k_ ≠ (.slice Ao36 t436.length co36 : Value).ownBlock∧some k_ ≠ (.slice Ao51 t451.length co51 : Value).ownBlock∧some k_ ≠ (s_.2.2.1 : Value).ownBlock) v417 t416)∧(Kd.R (Kd.int .i64) 3 w' w.heap.size (fun k_=>some k_ ≠ (v414 : Value).ownBlock∧some k_ ≠ (.slice Ao34 t433.length co34 : Value).ownBlock∧some k_ ≠ (.slice Ao39 t440.length co39 : Value).ownBlock∧some k_ ≠ (.slice Ao50 t448.length co50 : Value).ownBlock∧some k_ ≠ (.slice Ao52 t455.length co52 : Value).ownBlock∧some k_ ≠ (s_.2.1 : Value).ownBlock∧some k_ ≠ (s_.2.2.2.1 : Value).ownBlock) v421 t420)∧(Kd.R k134 134 w' w.heap.size (fun k_=>some k_ ≠ (v411 : Value).ownBlock∧some k_ ≠ (.slice Ao45 t445.length co45 : Value).ownBlock∧some k_ ≠ (s_.1 : Value).ownBlock) (.slice Ao32 t430.length co32) t430)∧(Kd.R (Kd.int .i64) 3 w' w.heap.size (fun k_=>some k_ ≠ (v414 : Value).ownBlock∧some k_ ≠ (v421 : Value).ownBlock∧some k_ ≠ (.slice Ao39 t440.length co39 : Value).ownBlock∧some k_ ≠ (.slice Ao50 t448.length co50 : Value).ownBlock∧some k_ ≠ (.slice Ao52 t455.length co52 : Value).ownBlock∧some k_ ≠ (s_.2.1 : Value).ownBlock∧some k_ ≠ (s_.2.2.2.1 : Value).ownBlock) (.slice Ao34 t433.length co34) t433)∧(Kd.R k127 127 w' w.heap.size (fun k_=>some k_ ≠ (v417 : Value).ownBlock∧some k_ ≠ (.slice Ao51 t451.length co51 : Value).ownBlock∧some k_ ≠ (s_.2.2.1 : Value).ownBlock) (.slice Ao36 t436.length co36) t436)∧(Kd.R (Kd.int .i64) 3 w' w.heap.size (fun k_=>some k_ ≠ (v414 : Value).ownBlock∧some k_ ≠ (v421 : Value).ownBlock∧some k_ ≠ (.slice Ao34 t433.length co34 : Value).ownBlock∧some k_ ≠ (.slice Ao50 t448.length co50 : Value).ownBlock∧some k_ ≠ (.slice Ao52 t455.length co52 : Value).ownBlock∧some k_ ≠ (s_.2.1 : Value).ownBlock∧some k_ ≠ (s_.2.2.2.1 : Value).ownBlock) (.slice Ao39 t440.length co39) t440)∧(Kd.R k134 134 w' w.heap.size (fun k_=>some k_ ≠ (v411 : Value).ownBlock∧some k_ ≠ (.slice Ao32 t430.length co32 : Value).ownBlock∧some k_ ≠ (s_.1 : Value).ownBlock) (.slice Ao45 t445.length co45) t445)∧(Kd.R (Kd.int .i64) 3 w' w.heap.size (fun k_=>some k_ ≠ (v414 : Value).ownBlock∧some k_ ≠ (v421 : Value).ownBlock∧some k_ ≠ (.slice Ao34 t433.length co34 : Value).ownBlock∧some k_ ≠ (.slice Ao39 t440.length co39 : Value).ownBlock∧some k_ ≠ (.slice Ao52 t455.length co52 : Value).ownBlock∧some k_ ≠ (s_.2.1 : Value).ownBlock∧some k_ ≠ (s_.2.2.2.1 : Value).ownBlock) (.slice Ao50 t448.length co50) t448)∧(Kd.R k127 127 w' w.heap.size (fun k_=>some k_ ≠ (v417 : Value).ownBlock∧some k_ ≠ (.slice Ao36 t436.length co36 : Value).ownBlock∧some k_ ≠ (s_.2.2.1 : Value).ownBlock) (.slice Ao51 t451.length co51) t451)∧(Kd.R (Kd.int .i64) 3 w' w.heap.size (fun k_=>some k_ ≠ (v414 : Value).ownBlock∧some k_ ≠ (v421 : Value).ownBlock∧some k_ ≠ (.slice Ao34 t433.length co34 : Value).ownBlock∧some k_ ≠ (.slice Ao39 t440.length co39 : Value).ownBlock∧some k_ ≠ (.slice Ao50 t448.length co50 : Value).ownBlock∧some k_ ≠ (s_.2.1 : Value).ownBlock∧some k_ ≠ (s_.2.2.2.1 : Value).ownBlock) (.slice Ao52 t455.length co52) t455)∧(Kd.R k134 134 w' w.heap.size (fun k_=>some k_ ≠ (v411 : Value).ownBlock∧some k_ ≠ (.slice Ao32 t430.length co32 : Value).ownBlock∧some k_ ≠ (.slice Ao45 t445.length co45 : Value).ownBlock) s_.1 t466)∧(Kd.R (Kd.int .i64) 3 w' w.heap.size (fun k_=>some k_ ≠ (v414 : Value).ownBlock∧some k_ ≠ (v421 : Value).ownBlock∧some k_ ≠ (.slice Ao34 t433.length co34 : Value).ownBlock∧some k_ ≠ (.slice Ao39 t440.length co39 : Value).ownBlock∧some k_ ≠ (.slice Ao50 t448.length co50 : Value).ownBlock∧some k_ ≠ (.slice Ao52 t455.length co52 : Value).ownBlock∧some k_ ≠ (s_.2.2.2.1 : Value).ownBlock) s_.2.1 t469)∧(Kd.R k127 127 w' w.heap.size (fun k_=>some k_ ≠ (v417 : Value).ownBlock∧some k_ ≠ (.slice Ao36 t436.length co36 : Value).ownBlock∧some k_ ≠ (.slice Ao51 t451.length co51 : Value).ownBlock) s_.2.2.1 t472)∧(Kd.R (Kd.int .i64) 3 w' w.heap.size (fun k_=>some k_ ≠ (v414 : Value).ownBlock∧some k_ ≠ (v421 : Value).ownBlock∧some k_ ≠ (.slice Ao34 t433.length co34 : Value).ownBlock∧some k_ ≠ (.slice Ao39 t440.length co39 : Value).ownBlock∧some k_ ≠ (.slice Ao50 t448.length co50 : Value).ownBlock∧some k_ ≠ (.slice Ao52 t455.length co52 : Value).ownBlock∧some k_ ≠ (s_.2.1 : Value).ownBlock) s_.2.2.2.1 t476)∧(w'.heap[gb407]? = some (.cells #[.slice A0_0 l0_0.length c0_0,.slice A0_1 l0_1.length c0_1,.slice A0_2 l0_2.length c0_2,.int .i64 a0_3,.slice A0_4 l0_4.length c0_4] 45 (0,0)))∧(w'.heap[gb408]? = some (.cells #[.int .i64 a1_0,.int .i64 a1_1,.int .i64 a1_2,.int .i64 a1_3,.int .i64 a1_4,.int .i64 a1_5,.int .i64 a1_6] 107 (0,0)))∧(w'.heap[gb444]? = some (.cells #[.slice Ao32 t430.length co32,.slice Ao34 t433.length co34,.slice Ao36 t436.length co36,.int .i64 t439,.slice Ao39 t440.length co39] 51 (0,0)))∧(w'.heap[gb458]? = some (.cells #[.slice Ao45 t445.length co45,.slice Ao50 t448.length co50,.slice Ao51 t451.length co51,.int .i64 t454,.slice Ao52 t455.length co52] 51 (0,0)))∧(w'.heap[s_.2.2.2.2]? = some (.cells #[.slice none 0 0,.slice none 0 0,.slice none 0 0,.int .i64 0,.slice none 0 0] 51 (0,0)))∧(w.heap.size ≤ s_.2.2.2.2)∧(w.heap.size ≤ s_.2.2.2.2)∧(gb407 ≠ s_.2.2.2.2)∧(s_.2.2.2.2 ≠ gb407)∧(gb408 ≠ s_.2.2.2.2)∧(s_.2.2.2.2 ≠ gb408)∧(gb444 ≠ s_.2.2.2.2)∧(s_.2.2.2.2 ≠ gb444)∧(gb458 ≠ s_.2.2.2.2)∧(s_.2.2.2.2 ≠ gb458)∧(Below w.heap.size w w')) ?_ ?_
 rotate_left
 ·intro hCont
  refine two_ (i:=2) (j:=7) (Ni:=some 34) (Nj:=some 9) (lb 10 7) (lb 10 131) rfl rfl rfl rfl (two_of HT_.out (by kernel_rfl)) (by decide) (by decide) (fun K hK=>?_) (fun K hK=>?_)
  rotate_left
  ·skip
   refine box_step ?hg (N:=9) ?hd (cs:=#[.slice none 0 0,.slice none 0 0,.slice none 0 0,.int .i64 0,.slice none 0 0]) (t:=51) ?hr ?_;(case hd=>rfl);(case hg=>rfl);(case hr=>first | (go_simp;done) | (go_simp;rfl))
   intro gb480 hg w55 hbox hb
   have n_ : _∧_∧_∧_∧_∧_∧_∧_∧_∧_∧_∧_∧_∧_∧_∧_∧_∧_∧_∧_∧_∧_∧_∧_∧_∧_∧_∧_:=⟨ka HO412 hb,ka HO415 hb,ka HO418 hb,ka HO422 hb,ka HO432 hb,ka HO435 hb,ka HO438 hb,ka HO442 hb,ka HO447 hb,ka HO450 hb,ka HO453 hb,ka HO457 hb,kb BK407 hb,kb BK408 hb,kb BK444 hb,kb BK458 hb,kh HB hb,ak (hbox),kz HB hg,kz HB hg,nl BK407 hg,ng BK407 hg,nl BK408 hg,ng BK408 hg,nl BK444 hg,ng BK444 hg,nl BK458 hg,ng BK458 hg⟩
   clear HO412 HO415 HO418 HO422 HO432 HO435 HO438 HO442 HO447 HO450 HO453 HO457 BK407 BK408 BK444 BK458 HB hb hbox hg
   obtain ⟨HO412,HO415,HO418,HO422,HO432,HO435,HO438,HO442,HO447,HO450,HO453,HO457,BK407,BK408,BK444,BK458,HB,BK480,GW480,GE480,NB407_480,NB480_407,NB408_480,NB480_408,NB444_480,NB480_444,NB458_480,NB480_458⟩:=n_
   refine hK.out _ _ ⟨ce BK458 0,ce BK458 1,ce BK458 2,ce BK458 3,ce BK458 4,ce BK408 0,ce BK408 1,ce BK408 2,ce BK408 3,ce BK408 4,ce BK408 5,ce BK408 6⟩ (fun hHeld=>?_)
   clear hK K
   refine nv 9 ?_
   refine ov 2 (some 34) 135 rfl rfl HT_ (fun K hK=>?_)
   refine gv Try.func83 #[.agg #[.int .i64 a1_0,.int .i64 a1_1,.int .i64 a1_2,.int .i64 a1_3,.int .i64 a1_4,.int .i64 a1_5,.int .i64 a1_6]] rfl rfl rfl ?_
   with_reducible refine (laws_toFrame.calls a1_0 a1_1 a1_2 a1_3 a1_4 a1_5 a1_6 t459 t460 t461 t462 t463 t464 t465 _ A14.out).mono ?_
   rintro e w56 ⟨rfl,hb⟩
   refine ⟨_,rfl,?_⟩
   have n_ : _∧_∧_∧_∧_∧_∧_∧_∧_∧_∧_∧_∧_∧_∧_∧_∧_∧_:=⟨ka HO412 hb,ka HO415 hb,ka HO418 hb,ka HO422 hb,ka HO432 hb,ka HO435 hb,ka HO438 hb,ka HO442 hb,ka HO447 hb,ka HO450 hb,ka HO453 hb,ka HO457 hb,kb BK407 hb,kb BK408 hb,kb BK444 hb,kb BK458 hb,kb BK480 hb,kh HB hb⟩
   clear HO412 HO415 HO418 HO422 HO432 HO435 HO438 HO442 HO447 HO450 HO453 HO457 BK407 BK408 BK444 BK458 BK480 HB
   obtain ⟨HO412,HO415,HO418,HO422,HO432,HO435,HO438,HO442,HO447,HO450,HO453,HO457,BK407,BK408,BK444,BK458,BK480,HB⟩:=n_
   (try clear hb)
   (try clear hb2)
   (try clear hk)
   (try clear hi)
   refine hK.out _ _ ⟨ce BK458 0,ce BK458 1,ce BK458 2,ce BK458 3,ce BK458 4,ce BK408 0,ce BK408 1,ce BK408 2,ce BK408 3,ce BK408 4,ce BK408 5,ce BK408 6⟩ (fun hHeld=>?_)
   clear hK K
   refine nv 34 ?_
   refine ov 3 (some 35) 143 rfl rfl HT_ (fun K hK=>?_)
   refine gv Try.func29 #[.agg #[.slice Ao45 t445.length co45,.slice Ao50 t448.length co50,.slice Ao51 t451.length co51,.int .i64 t454,.slice Ao52 t455.length co52],.agg #[.int .i64 t459,.int .i64 t460,.int .i64 t461,.int .i64 t462,.int .i64 t463,.int .i64 t464,.int .i64 t465]] rfl rfl rfl ?_
   with_reducible refine (impl_Kept.calls k _ _ t445 _ _ t448 _ _ t451 t454 _ _ t455 t459 t460 t461 t462 t463 t464 t465 t466 t469 t472 t475 t476 t479 _ ?side1 ?side2 ?side3 ?side4 ?side5 ?side6 ?side7 ?side8 A15.out).mono ?_
   (case side1=>exact rc (Kd.R_reads' HO447.out).2.2)
   (case side2=>exact (Kd.R_reads' HO447.out).2.1)
   (case side3=>exact rc (Kd.R_reads' HO450.out).2.2)
   (case side4=>exact (Kd.R_reads' HO450.out).2.1)
   (case side5=>exact rc (Kd.R_reads' HO453.out).2.2)
   (case side6=>exact (Kd.R_reads' HO453.out).2.1)
   (case side7=>exact rc (Kd.R_reads' HO457.out).2.2)
   (case side8=>exact (Kd.R_reads' HO457.out).2.1)
   rintro e w57 ⟨v467,v470,v473,v477,rfl,ho0,ho1,ho2,ho3,hb⟩
   refine ⟨_,rfl,?_⟩
   have n_ : _∧_∧_∧_∧_∧_∧_∧_∧_∧_∧_∧_∧_∧_∧_∧_∧_∧_∧_∧_∧_∧_:=⟨ke HO412 ho0 hb,ak (Kd.R_mono (Kd.R_told (Kd.R_told (Kd.R_old (rr HO415.out) hb) (Kd.R_base ho1)) (Kd.R_base ho3)) (fun _ h_=>h_.1)),ke HO418 ho2 hb,ak (Kd.R_mono (Kd.R_told (Kd.R_told (Kd.R_old (rr HO422.out) hb) (Kd.R_base ho1)) (Kd.R_base ho3)) (fun _ h_=>h_.1)),ke HO432 ho0 hb,ak (Kd.R_mono (Kd.R_told (Kd.R_told (Kd.R_old (rr HO435.out) hb) (Kd.R_base ho1)) (Kd.R_base ho3)) (fun _ h_=>h_.1)),ke HO438 ho2 hb,ak (Kd.R_mono (Kd.R_told (Kd.R_told (Kd.R_old (rr HO442.out) hb) (Kd.R_base ho1)) (Kd.R_base ho3)) (fun _ h_=>h_.1)),ke HO447 ho0 hb,ak (Kd.R_mono (Kd.R_told (Kd.R_told (Kd.R_old (rr HO450.out) hb) (Kd.R_base ho1)) (Kd.R_base ho3)) (fun _ h_=>h_.1)),ke HO453 ho2 hb,ak (Kd.R_mono (Kd.R_told (Kd.R_told (Kd.R_old (rr HO457.out) hb) (Kd.R_base ho1)) (Kd.R_base ho3)) (fun _ h_=>h_.1)),kl (kn (kn (kn ho0 HO412) HO432) HO447) HB,kl (kn (kn (kn (kn (kn (kn ho1 HO415) HO422) HO435) HO442) HO450) HO457) HB,kl (kn (kn (kn ho2 HO418) HO438) HO453) HB,kl (kn (kn (kn (kn (kn (kn ho3 HO415) HO422) HO435) HO442) HO450) HO457) HB,kb BK407 hb,kb BK408 hb,kb BK444 hb,kb BK458 hb,kb BK480 hb,kh HB hb⟩
   clear HO412 HO415 HO418 HO422 HO432 HO435 HO438 HO442 HO447 HO450 HO453 HO457 BK407 BK408 BK444 BK458 BK480 HB
   obtain ⟨HO412,HO415,HO418,HO422,HO432,HO435,HO438,HO442,HO447,HO450,HO453,HO457,HO468,HO471,HO474,HO478,BK407,BK408,BK444,BK458,BK480,HB⟩:=n_
   (try clear hb)
   (try clear hb2)
   (try clear hk)
   (try clear hi)
   (try clear ho0)
   (try clear ho1)
   (try clear ho2)
   (try clear ho3)
   refine hK.out _ _ ⟨ce BK458 0,ce BK458 1,ce BK458 2,ce BK458 3,ce BK458 4,ce BK408 0,ce BK408 1,ce BK408 2,ce BK408 3,ce BK408 4,ce BK408 5,ce BK408 6⟩ (fun hHeld=>?_)
   clear hK K
   refine nv 35 ?_
   refine pv 4 (some 31) 159 rfl rfl HT_ ?_
   refine pv 5 (some 36) 191 rfl rfl HT_ ?_
   refine pv 6 (some 37) 255 rfl rfl HT_ ?_
   exact norm_ (by simp only [putAll,Act.put,List.setIfInBounds_toArray,List.set_cons_zero,List.set_cons_succ]) (hCont (v467,v470,v473,v477,gb480) _ ⟨hHeld,(rn HO412),(rn HO415),(rn HO418),(rn HO422),(rn HO432),(rn HO435),(rn HO438),(rn HO442),(rn HO447),(rn HO450),(rn HO453),(rn HO457),(rn HO468),(rn HO471),(rn HO474),(rn HO478),(rk BK407.out),(rk BK408.out),(rk BK444.out),(rk BK458.out),(rk BK480.out),GW480.out,GE480.out,NB407_480.out,NB480_407.out,NB408_480.out,NB480_408.out,NB444_480.out,NB480_444.out,NB458_480.out,NB480_458.out,(rb5 GE407.out GE408.out GE444.out GE458.out GE480.out HB.out)⟩)
  skip
  refine gv Try.func83 #[.agg #[.int .i64 a1_0,.int .i64 a1_1,.int .i64 a1_2,.int .i64 a1_3,.int .i64 a1_4,.int .i64 a1_5,.int .i64 a1_6]] rfl rfl rfl ?_
  with_reducible refine (laws_toFrame.calls a1_0 a1_1 a1_2 a1_3 a1_4 a1_5 a1_6 t459 t460 t461 t462 t463 t464 t465 _ A14.out).mono ?_
  rintro e w55 ⟨rfl,hb⟩
  refine ⟨_,rfl,?_⟩
  have n_ : _∧_∧_∧_∧_∧_∧_∧_∧_∧_∧_∧_∧_∧_∧_∧_∧_:=⟨ka HO412 hb,ka HO415 hb,ka HO418 hb,ka HO422 hb,ka HO432 hb,ka HO435 hb,ka HO438 hb,ka HO442 hb,ka HO447 hb,ka HO450 hb,ka HO453 hb,ka HO457 hb,kb BK407 hb,kb BK408 hb,kb BK444 hb,kb BK458 hb,kh HB hb⟩
  clear HO412 HO415 HO418 HO422 HO432 HO435 HO438 HO442 HO447 HO450 HO453 HO457 BK407 BK408 BK444 BK458 HB
  obtain ⟨HO412,HO415,HO418,HO422,HO432,HO435,HO438,HO442,HO447,HO450,HO453,HO457,BK407,BK408,BK444,BK458,HB⟩:=n_
  (try clear hb)
  (try clear hb2)
  (try clear hk)
  (try clear hi)
  refine hK.out _ _ ⟨ce BK458 0,ce BK458 1,ce BK458 2,ce BK458 3,ce BK458 4,ce BK408 0,ce BK408 1,ce BK408 2,ce BK408 3,ce BK408 4,ce BK408 5,ce BK408 6⟩ (fun hHeld=>?_)
  clear hK K
  refine nv 34 ?_
  refine two_ (i:=3) (j:=7) (Ni:=some 35) (Nj:=some 9) (lb 10 15) (lb 10 135) rfl rfl rfl rfl (two_of HT_.out (by kernel_rfl)) (by decide) (by decide) (fun K hK=>?_) (fun K hK=>?_)
  ·skip
   refine gv Try.func29 #[.agg #[.slice Ao45 t445.length co45,.slice Ao50 t448.length co50,.slice Ao51 t451.length co51,.int .i64 t454,.slice Ao52 t455.length co52],.agg #[.int .i64 t459,.int .i64 t460,.int .i64 t461,.int .i64 t462,.int .i64 t463,.int .i64 t464,.int .i64 t465]] rfl rfl rfl ?_
   with_reducible refine (impl_Kept.calls k _ _ t445 _ _ t448 _ _ t451 t454 _ _ t455 t459 t460 t461 t462 t463 t464 t465 t466 t469 t472 t475 t476 t479 _ ?side1 ?side2 ?side3 ?side4 ?side5 ?side6 ?side7 ?side8 A15.out).mono ?_
   (case side1=>exact rc (Kd.R_reads' HO447.out).2.2)
   (case side2=>exact (Kd.R_reads' HO447.out).2.1)
   (case side3=>exact rc (Kd.R_reads' HO450.out).2.2)
   (case side4=>exact (Kd.R_reads' HO450.out).2.1)
   (case side5=>exact rc (Kd.R_reads' HO453.out).2.2)
   (case side6=>exact (Kd.R_reads' HO453.out).2.1)
   (case side7=>exact rc (Kd.R_reads' HO457.out).2.2)
   (case side8=>exact (Kd.R_reads' HO457.out).2.1)
   rintro e w56 ⟨v467,v470,v473,v477,rfl,ho0,ho1,ho2,ho3,hb⟩
   refine ⟨_,rfl,?_⟩
   have n_ : _∧_∧_∧_∧_∧_∧_∧_∧_∧_∧_∧_∧_∧_∧_∧_∧_∧_∧_∧_∧_:=⟨ke HO412 ho0 hb,ak (Kd.R_mono (Kd.R_told (Kd.R_told (Kd.R_old (rr HO415.out) hb) (Kd.R_base ho1)) (Kd.R_base ho3)) (fun _ h_=>h_.1)),ke HO418 ho2 hb,ak (Kd.R_mono (Kd.R_told (Kd.R_told (Kd.R_old (rr HO422.out) hb) (Kd.R_base ho1)) (Kd.R_base ho3)) (fun _ h_=>h_.1)),ke HO432 ho0 hb,ak (Kd.R_mono (Kd.R_told (Kd.R_told (Kd.R_old (rr HO435.out) hb) (Kd.R_base ho1)) (Kd.R_base ho3)) (fun _ h_=>h_.1)),ke HO438 ho2 hb,ak (Kd.R_mono (Kd.R_told (Kd.R_told (Kd.R_old (rr HO442.out) hb) (Kd.R_base ho1)) (Kd.R_base ho3)) (fun _ h_=>h_.1)),ke HO447 ho0 hb,ak (Kd.R_mono (Kd.R_told (Kd.R_told (Kd.R_old (rr HO450.out) hb) (Kd.R_base ho1)) (Kd.R_base ho3)) (fun _ h_=>h_.1)),ke HO453 ho2 hb,ak (Kd.R_mono (Kd.R_told (Kd.R_told (Kd.R_old (rr HO457.out) hb) (Kd.R_base ho1)) (Kd.R_base ho3)) (fun _ h_=>h_.1)),kl (kn (kn (kn ho0 HO412) HO432) HO447) HB,kl (kn (kn (kn (kn (kn (kn ho1 HO415) HO422) HO435) HO442) HO450) HO457) HB,kl (kn (kn (kn ho2 HO418) HO438) HO453) HB,kl (kn (kn (kn (kn (kn (kn ho3 HO415) HO422) HO435) HO442) HO450) HO457) HB,kb BK407 hb,kb BK408 hb,kb BK444 hb,kb BK458 hb,kh HB hb⟩
   clear HO412 HO415 HO418 HO422 HO432 HO435 HO438 HO442 HO447 HO450 HO453 HO457 BK407 BK408 BK444 BK458 HB
   obtain ⟨HO412,HO415,HO418,HO422,HO432,HO435,HO438,HO442,HO447,HO450,HO453,HO457,HO468,HO471,HO474,HO478,BK407,BK408,BK444,BK458,HB⟩:=n_
   (try clear hb)
   (try clear hb2)
   (try clear hk)
   (try clear hi)
   (try clear ho0)
   (try clear ho1)
   (try clear ho2)
   (try clear ho3)
   refine hK.out _ _ ⟨ce BK458 0,ce BK458 1,ce BK458 2,ce BK458 3,ce BK458 4,ce BK408 0,ce BK408 1,ce BK408 2,ce BK408 3,ce BK408 4,ce BK408 5,ce BK408 6⟩ (fun hHeld=>?_)
   clear hK K
   refine nv 35 ?_
   refine pv 4 (some 31) 31 rfl rfl HT_ ?_
   refine pv 5 (some 36) 63 rfl rfl HT_ ?_
   refine pv 6 (some 37) 127 rfl rfl HT_ ?_
   refine ov 7 (some 9) 255 rfl rfl HT_ (fun K hK=>?_)
   refine box_step ?hg (N:=9) ?hd (cs:=#[.slice none 0 0,.slice none 0 0,.slice none 0 0,.int .i64 0,.slice none 0 0]) (t:=51) ?hr ?_;(case hd=>rfl);(case hg=>rfl);(case hr=>first | (go_simp;done) | (go_simp;rfl))
   intro gb480 hg w57 hbox hb
   have n_ : _∧_∧_∧_∧_∧_∧_∧_∧_∧_∧_∧_∧_∧_∧_∧_∧_∧_∧_∧_∧_∧_∧_∧_∧_∧_∧_∧_∧_∧_∧_∧_:=⟨ka HO412 hb,ka HO415 hb,ka HO418 hb,ka HO422 hb,ka HO432 hb,ka HO435 hb,ka HO438 hb,ka HO442 hb,ka HO447 hb,ka HO450 hb,ka HO453 hb,ka HO457 hb,ka HO468 hb,ka HO471 hb,ka HO474 hb,ka HO478 hb,kb BK407 hb,kb BK408 hb,kb BK444 hb,kb BK458 hb,kh HB hb,ak (hbox),kz HB hg,kz HB hg,nl BK407 hg,ng BK407 hg,nl BK408 hg,ng BK408 hg,nl BK444 hg,ng BK444 hg,nl BK458 hg,ng BK458 hg⟩
   clear HO412 HO415 HO418 HO422 HO432 HO435 HO438 HO442 HO447 HO450 HO453 HO457 HO468 HO471 HO474 HO478 BK407 BK408 BK444 BK458 HB hb hbox hg
   obtain ⟨HO412,HO415,HO418,HO422,HO432,HO435,HO438,HO442,HO447,HO450,HO453,HO457,HO468,HO471,HO474,HO478,BK407,BK408,BK444,BK458,HB,BK480,GW480,GE480,NB407_480,NB480_407,NB408_480,NB480_408,NB444_480,NB480_444,NB458_480,NB480_458⟩:=n_
   refine hK.out _ _ ⟨ce BK458 0,ce BK458 1,ce BK458 2,ce BK458 3,ce BK458 4,ce BK408 0,ce BK408 1,ce BK408 2,ce BK408 3,ce BK408 4,ce BK408 5,ce BK408 6⟩ (fun hHeld=>?_)
   clear hK K
   refine nv 9 ?_
   exact norm_ (by simp only [putAll,Act.put,List.setIfInBounds_toArray,List.set_cons_zero,List.set_cons_succ]) (hCont (v467,v470,v473,v477,gb480) _ ⟨hHeld,(rn HO412),(rn HO415),(rn HO418),(rn HO422),(rn HO432),(rn HO435),(rn HO438),(rn HO442),(rn HO447),(rn HO450),(rn HO453),(rn HO457),(rn HO468),(rn HO471),(rn HO474),(rn HO478),(rk BK407.out),(rk BK408.out),(rk BK444.out),(rk BK458.out),(rk BK480.out),GW480.out,GE480.out,NB407_480.out,NB480_407.out,NB408_480.out,NB480_408.out,NB444_480.out,NB480_444.out,NB458_480.out,NB480_458.out,(rb5 GE407.out GE408.out GE444.out GE458.out GE480.out HB.out)⟩)
  skip
  refine box_step ?hg (N:=9) ?hd (cs:=#[.slice none 0 0,.slice none 0 0,.slice none 0 0,.int .i64 0,.slice none 0 0]) (t:=51) ?hr ?_;(case hd=>rfl);(case hg=>rfl);(case hr=>first | (go_simp;done) | (go_simp;rfl))
  intro gb480 hg w56 hbox hb
  have n_ : _∧_∧_∧_∧_∧_∧_∧_∧_∧_∧_∧_∧_∧_∧_∧_∧_∧_∧_∧_∧_∧_∧_∧_∧_∧_∧_∧_:=⟨ka HO412 hb,ka HO415 hb,ka HO418 hb,ka HO422 hb,ka HO432 hb,ka HO435 hb,ka HO438 hb,ka HO442 hb,ka HO447 hb,ka HO450 hb,ka HO453 hb,ka HO457 hb,kb BK407 hb,kb BK408 hb,kb BK444 hb,kb BK458 hb,kh HB hb,ak (hbox),kz HB hg,kz HB hg,nl BK407 hg,ng BK407 hg,nl BK408 hg,ng BK408 hg,nl BK444 hg,ng BK444 hg,nl BK458 hg,ng BK458 hg⟩
  clear HO412 HO415 HO418 HO422 HO432 HO435 HO438 HO442 HO447 HO450 HO453 HO457 BK407 BK408 BK444 BK458 HB hb hbox hg
  obtain ⟨HO412,HO415,HO418,HO422,HO432,HO435,HO438,HO442,HO447,HO450,HO453,HO457,BK407,BK408,BK444,BK458,HB,BK480,GW480,GE480,NB407_480,NB480_407,NB408_480,NB480_408,NB444_480,NB480_444,NB458_480,NB480_458⟩:=n_
  refine hK.out _ _ ⟨ce BK458 0,ce BK458 1,ce BK458 2,ce BK458 3,ce BK458 4,ce BK408 0,ce BK408 1,ce BK408 2,ce BK408 3,ce BK408 4,ce BK408 5,ce BK408 6⟩ (fun hHeld=>?_)
  clear hK K
  refine nv 9 ?_
  refine ov 3 (some 35) 143 rfl rfl HT_ (fun K hK=>?_)
  refine gv Try.func29 #[.agg #[.slice Ao45 t445.length co45,.slice Ao50 t448.length co50,.slice Ao51 t451.length co51,.int .i64 t454,.slice Ao52 t455.length co52],.agg #[.int .i64 t459,.int .i64 t460,.int .i64 t461,.int .i64 t462,.int .i64 t463,.int .i64 t464,.int .i64 t465]] rfl rfl rfl ?_
  with_reducible refine (impl_Kept.calls k _ _ t445 _ _ t448 _ _ t451 t454 _ _ t455 t459 t460 t461 t462 t463 t464 t465 t466 t469 t472 t475 t476 t479 _ ?side1 ?side2 ?side3 ?side4 ?side5 ?side6 ?side7 ?side8 A15.out).mono ?_
  (case side1=>exact rc (Kd.R_reads' HO447.out).2.2)
  (case side2=>exact (Kd.R_reads' HO447.out).2.1)
  (case side3=>exact rc (Kd.R_reads' HO450.out).2.2)
  (case side4=>exact (Kd.R_reads' HO450.out).2.1)
  (case side5=>exact rc (Kd.R_reads' HO453.out).2.2)
  (case side6=>exact (Kd.R_reads' HO453.out).2.1)
  (case side7=>exact rc (Kd.R_reads' HO457.out).2.2)
  (case side8=>exact (Kd.R_reads' HO457.out).2.1)
  rintro e w57 ⟨v467,v470,v473,v477,rfl,ho0,ho1,ho2,ho3,hb⟩
  refine ⟨_,rfl,?_⟩
  have n_ : _∧_∧_∧_∧_∧_∧_∧_∧_∧_∧_∧_∧_∧_∧_∧_∧_∧_∧_∧_∧_∧_:=⟨ke HO412 ho0 hb,ak (Kd.R_mono (Kd.R_told (Kd.R_told (Kd.R_old (rr HO415.out) hb) (Kd.R_base ho1)) (Kd.R_base ho3)) (fun _ h_=>h_.1)),ke HO418 ho2 hb,ak (Kd.R_mono (Kd.R_told (Kd.R_told (Kd.R_old (rr HO422.out) hb) (Kd.R_base ho1)) (Kd.R_base ho3)) (fun _ h_=>h_.1)),ke HO432 ho0 hb,ak (Kd.R_mono (Kd.R_told (Kd.R_told (Kd.R_old (rr HO435.out) hb) (Kd.R_base ho1)) (Kd.R_base ho3)) (fun _ h_=>h_.1)),ke HO438 ho2 hb,ak (Kd.R_mono (Kd.R_told (Kd.R_told (Kd.R_old (rr HO442.out) hb) (Kd.R_base ho1)) (Kd.R_base ho3)) (fun _ h_=>h_.1)),ke HO447 ho0 hb,ak (Kd.R_mono (Kd.R_told (Kd.R_told (Kd.R_old (rr HO450.out) hb) (Kd.R_base ho1)) (Kd.R_base ho3)) (fun _ h_=>h_.1)),ke HO453 ho2 hb,ak (Kd.R_mono (Kd.R_told (Kd.R_told (Kd.R_old (rr HO457.out) hb) (Kd.R_base ho1)) (Kd.R_base ho3)) (fun _ h_=>h_.1)),kl (kn (kn (kn ho0 HO412) HO432) HO447) HB,kl (kn (kn (kn (kn (kn (kn ho1 HO415) HO422) HO435) HO442) HO450) HO457) HB,kl (kn (kn (kn ho2 HO418) HO438) HO453) HB,kl (kn (kn (kn (kn (kn (kn ho3 HO415) HO422) HO435) HO442) HO450) HO457) HB,kb BK407 hb,kb BK408 hb,kb BK444 hb,kb BK458 hb,kb BK480 hb,kh HB hb⟩
  clear HO412 HO415 HO418 HO422 HO432 HO435 HO438 HO442 HO447 HO450 HO453 HO457 BK407 BK408 BK444 BK458 BK480 HB
  obtain ⟨HO412,HO415,HO418,HO422,HO432,HO435,HO438,HO442,HO447,HO450,HO453,HO457,HO468,HO471,HO474,HO478,BK407,BK408,BK444,BK458,BK480,HB⟩:=n_
  (try clear hb)
  (try clear hb2)
  (try clear hk)
  (try clear hi)
  (try clear ho0)
  (try clear ho1)
  (try clear ho2)
  (try clear ho3)
  refine hK.out _ _ ⟨ce BK458 0,ce BK458 1,ce BK458 2,ce BK458 3,ce BK458 4,ce BK408 0,ce BK408 1,ce BK408 2,ce BK408 3,ce BK408 4,ce BK408 5,ce BK408 6⟩ (fun hHeld=>?_)
  clear hK K
  refine nv 35 ?_
  refine pv 4 (some 31) 159 rfl rfl HT_ ?_
  refine pv 5 (some 36) 191 rfl rfl HT_ ?_
  refine pv 6 (some 37) 255 rfl rfl HT_ ?_
  exact norm_ (by simp only [putAll,Act.put,List.setIfInBounds_toArray,List.set_cons_zero,List.set_cons_succ]) (hCont (v467,v470,v473,v477,gb480) _ ⟨hHeld,(rn HO412),(rn HO415),(rn HO418),(rn HO422),(rn HO432),(rn HO435),(rn HO438),(rn HO442),(rn HO447),(rn HO450),(rn HO453),(rn HO457),(rn HO468),(rn HO471),(rn HO474),(rn HO478),(rk BK407.out),(rk BK408.out),(rk BK444.out),(rk BK458.out),(rk BK480.out),GW480.out,GE480.out,NB407_480.out,NB480_407.out,NB408_480.out,NB480_408.out,NB444_480.out,NB480_444.out,NB458_480.out,NB480_458.out,(rb5 GE407.out GE408.out GE444.out GE458.out GE480.out HB.out)⟩)
 rintro ⟨v467,v470,v473,v477,gb480⟩ w58 ⟨hS_,h0_,h1_,h2_,h3_,h4_,h5_,h6_,h7_,h8_,h9_,h10_,h11_,h12_,h13_,h14_,h15_,h16_,h17_,h18_,h19_,h20_,h21_,h22_,h23_,h24_,h25_,h26_,h27_,h28_,h29_,h30_,h31_⟩
 have n0_ : Aside0 (Kd.R k134 134 w58 w.heap.size (fun k_=>some k_ ≠ (.slice Ao32 t430.length co32 : Value).ownBlock∧some k_ ≠ (.slice Ao45 t445.length co45 : Value).ownBlock∧some k_ ≠ (v467 : Value).ownBlock) v411 t410):=⟨h0_⟩
 have n1_ : Aside0 (Kd.R (Kd.int .i64) 3 w58 w.heap.size (fun k_=>some k_ ≠ (v421 : Value).ownBlock∧some k_ ≠ (.slice Ao34 t433.length co34 : Value).ownBlock∧some k_ ≠ (.slice Ao39 t440.length co39 : Value).ownBlock∧some k_ ≠ (.slice Ao50 t448.length co50 : Value).ownBlock∧some k_ ≠ (.slice Ao52 t455.length co52 : Value).ownBlock∧some k_ ≠ (v470 : Value).ownBlock∧some k_ ≠ (v477 : Value).ownBlock) v414 t413):=⟨h1_⟩
 have n2_ : Aside0 (Kd.R k127 127 w58 w.heap.size (fun k_=>some k_ ≠ (.slice Ao36 t436.length co36 : Value).ownBlock∧some k_ ≠ (.slice Ao51 t451.length co51 : Value).ownBlock∧some k_ ≠ (v473 : Value).ownBlock) v417 t416):=⟨h2_⟩
 have n3_ : Aside0 (Kd.R (Kd.int .i64) 3 w58 w.heap.size (fun k_=>some k_ ≠ (v414 : Value).ownBlock∧some k_ ≠ (.slice Ao34 t433.length co34 : Value).ownBlock∧some k_ ≠ (.slice Ao39 t440.length co39 : Value).ownBlock∧some k_ ≠ (.slice Ao50 t448.length co50 : Value).ownBlock∧some k_ ≠ (.slice Ao52 t455.length co52 : Value).ownBlock∧some k_ ≠ (v470 : Value).ownBlock∧some k_ ≠ (v477 : Value).ownBlock) v421 t420):=⟨h3_⟩
 have n4_ : Aside0 (Kd.R k134 134 w58 w.heap.size (fun k_=>some k_ ≠ (v411 : Value).ownBlock∧some k_ ≠ (.slice Ao45 t445.length co45 : Value).ownBlock∧some k_ ≠ (v467 : Value).ownBlock) (.slice Ao32 t430.length co32) t430):=⟨h4_⟩
 have n5_ : Aside0 (Kd.R (Kd.int .i64) 3 w58 w.heap.size (fun k_=>some k_ ≠ (v414 : Value).ownBlock∧some k_ ≠ (v421 : Value).ownBlock∧some k_ ≠ (.slice Ao39 t440.length co39 : Value).ownBlock∧some k_ ≠ (.slice Ao50 t448.length co50 : Value).ownBlock∧some k_ ≠ (.slice Ao52 t455.length co52 : Value).ownBlock∧some k_ ≠ (v470 : Value).ownBlock∧some k_ ≠ (v477 : Value).ownBlock) (.slice Ao34 t433.length co34) t433):=⟨h5_⟩
 have n6_ : Aside0 (Kd.R k127 127 w58 w.heap.size (fun k_=>some k_ ≠ (v417 : Value).ownBlock∧some k_ ≠ (.slice Ao51 t451.length co51 : Value).ownBlock∧some k_ ≠ (v473 : Value).ownBlock) (.slice Ao36 t436.length co36) t436):=⟨h6_⟩
 have n7_ : Aside0 (Kd.R (Kd.int .i64) 3 w58 w.heap.size (fun k_=>some k_ ≠ (v414 : Value).ownBlock∧some k_ ≠ (v421 : Value).ownBlock∧some k_ ≠ (.slice Ao34 t433.length co34 : Value).ownBlock∧some k_ ≠ (.slice Ao50 t448.length co50 : Value).ownBlock∧some k_ ≠ (.slice Ao52 t455.length co52 : Value).ownBlock∧some k_ ≠ (v470 : Value).ownBlock∧some k_ ≠ (v477 : Value).ownBlock) (.slice Ao39 t440.length co39) t440):=⟨h7_⟩
 have n8_ : Aside0 (Kd.R k134 134 w58 w.heap.size (fun k_=>some k_ ≠ (v411 : Value).ownBlock∧some k_ ≠ (.slice Ao32 t430.length co32 : Value).ownBlock∧some k_ ≠ (v467 : Value).ownBlock) (.slice Ao45 t445.length co45) t445):=⟨h8_⟩
 have n9_ : Aside0 (Kd.R (Kd.int .i64) 3 w58 w.heap.size (fun k_=>some k_ ≠ (v414 : Value).ownBlock∧some k_ ≠ (v421 : Value).ownBlock∧some k_ ≠ (.slice Ao34 t433.length co34 : Value).ownBlock∧some k_ ≠ (.slice Ao39 t440.length co39 : Value).ownBlock∧some k_ ≠ (.slice Ao52 t455.length co52 : Value).ownBlock∧some k_ ≠ (v470 : Value).ownBlock∧some k_ ≠ (v477 : Value).ownBlock) (.slice Ao50 t448.length co50) t448):=⟨h9_⟩
 have n10_ : Aside0 (Kd.R k127 127 w58 w.heap.size (fun k_=>some k_ ≠ (v417 : Value).ownBlock∧some k_ ≠ (.slice Ao36 t436.length co36 : Value).ownBlock∧some k_ ≠ (v473 : Value).ownBlock) (.slice Ao51 t451.length co51) t451):=⟨h10_⟩
 have n11_ : Aside0 (Kd.R (Kd.int .i64) 3 w58 w.heap.size (fun k_=>some k_ ≠ (v414 : Value).ownBlock∧some k_ ≠ (v421 : Value).ownBlock∧some k_ ≠ (.slice Ao34 t433.length co34 : Value).ownBlock∧some k_ ≠ (.slice Ao39 t440.length co39 : Value).ownBlock∧some k_ ≠ (.slice Ao50 t448.length co50 : Value).ownBlock∧some k_ ≠ (v470 : Value).ownBlock∧some k_ ≠ (v477 : Value).ownBlock) (.slice Ao52 t455.length co52) t455):=⟨h11_⟩
 have n12_ : Aside0 (Kd.R k134 134 w58 w.heap.size (fun k_=>some k_ ≠ (v411 : Value).ownBlock∧some k_ ≠ (.slice Ao32 t430.length co32 : Value).ownBlock∧some k_ ≠ (.slice Ao45 t445.length co45 : Value).ownBlock) v467 t466):=⟨h12_⟩
 have n13_ : Aside0 (Kd.R (Kd.int .i64) 3 w58 w.heap.size (fun k_=>some k_ ≠ (v414 : Value).ownBlock∧some k_ ≠ (v421 : Value).ownBlock∧some k_ ≠ (.slice Ao34 t433.length co34 : Value).ownBlock∧some k_ ≠ (.slice Ao39 t440.length co39 : Value).ownBlock∧some k_ ≠ (.slice Ao50 t448.length co50 : Value).ownBlock∧some k_ ≠ (.slice Ao52 t455.length co52 : Value).ownBlock∧some k_ ≠ (v477 : Value).ownBlock) v470 t469):=⟨h13_⟩
 have n14_ : Aside0 (Kd.R k127 127 w58 w.heap.size (fun k_=>some k_ ≠ (v417 : Value).ownBlock∧some k_ ≠ (.slice Ao36 t436.length co36 : Value).ownBlock∧some k_ ≠ (.slice Ao51 t451.length co51 : Value).ownBlock) v473 t472):=⟨h14_⟩
 have n15_ : Aside0 (Kd.R (Kd.int .i64) 3 w58 w.heap.size (fun k_=>some k_ ≠ (v414 : Value).ownBlock∧some k_ ≠ (v421 : Value).ownBlock∧some k_ ≠ (.slice Ao34 t433.length co34 : Value).ownBlock∧some k_ ≠ (.slice Ao39 t440.length co39 : Value).ownBlock∧some k_ ≠ (.slice Ao50 t448.length co50 : Value).ownBlock∧some k_ ≠ (.slice Ao52 t455.length co52 : Value).ownBlock∧some k_ ≠ (v470 : Value).ownBlock) v477 t476):=⟨h15_⟩
 have n16_ : Aside0 (w58.heap[gb407]? = some (.cells #[.slice A0_0 l0_0.length c0_0,.slice A0_1 l0_1.length c0_1,.slice A0_2 l0_2.length c0_2,.int .i64 a0_3,.slice A0_4 l0_4.length c0_4] 45 (0,0))):=⟨h16_⟩
 have n17_ : Aside0 (w58.heap[gb408]? = some (.cells #[.int .i64 a1_0,.int .i64 a1_1,.int .i64 a1_2,.int .i64 a1_3,.int .i64 a1_4,.int .i64 a1_5,.int .i64 a1_6] 107 (0,0))):=⟨h17_⟩
 have n18_ : Aside0 (w58.heap[gb444]? = some (.cells #[.slice Ao32 t430.length co32,.slice Ao34 t433.length co34,.slice Ao36 t436.length co36,.int .i64 t439,.slice Ao39 t440.length co39] 51 (0,0))):=⟨h18_⟩
 have n19_ : Aside0 (w58.heap[gb458]? = some (.cells #[.slice Ao45 t445.length co45,.slice Ao50 t448.length co50,.slice Ao51 t451.length co51,.int .i64 t454,.slice Ao52 t455.length co52] 51 (0,0))):=⟨h19_⟩
 have n20_ : Aside0 (w58.heap[gb480]? = some (.cells #[.slice none 0 0,.slice none 0 0,.slice none 0 0,.int .i64 0,.slice none 0 0] 51 (0,0))):=⟨h20_⟩
 have n21_ : Aside0 (w.heap.size ≤ gb480):=⟨h21_⟩
 have n22_ : Aside0 (w.heap.size ≤ gb480):=⟨h22_⟩
 have n23_ : Aside0 (gb407 ≠ gb480):=⟨h23_⟩
 have n24_ : Aside0 (gb480 ≠ gb407):=⟨h24_⟩
 have n25_ : Aside0 (gb408 ≠ gb480):=⟨h25_⟩
 have n26_ : Aside0 (gb480 ≠ gb408):=⟨h26_⟩
 have n27_ : Aside0 (gb444 ≠ gb480):=⟨h27_⟩
 have n28_ : Aside0 (gb480 ≠ gb444):=⟨h28_⟩
 have n29_ : Aside0 (gb458 ≠ gb480):=⟨h29_⟩
 have n30_ : Aside0 (gb480 ≠ gb458):=⟨h30_⟩
 have n31_ : Aside0 (Below w.heap.size w w58):=⟨h31_⟩
 clear HO412 HO415 HO418 HO422 HO432 HO435 HO438 HO442 HO447 HO450 HO453 HO457 BK407 BK408 BK444 BK458 HB h0_ h1_ h2_ h3_ h4_ h5_ h6_ h7_ h8_ h9_ h10_ h11_ h12_ h13_ h14_ h15_ h16_ h17_ h18_ h19_ h20_ h21_ h22_ h23_ h24_ h25_ h26_ h27_ h28_ h29_ h30_ h31_
 have HO412:=n0_
 have HO415:=n1_
 have HO418:=n2_
 have HO422:=n3_
 have HO432:=n4_
 have HO435:=n5_
 have HO438:=n6_
 have HO442:=n7_
 have HO447:=n8_
 have HO450:=n9_
 have HO453:=n10_
 have HO457:=n11_
 have HO468:=n12_
 have HO471:=n13_
 have HO474:=n14_
 have HO478:=n15_
 have BK407:=n16_
 have BK408:=n17_
 have BK444:=n18_
 have BK458:=n19_
 have BK480:=n20_
 have GW480:=n21_
 have GE480:=n22_
 have NB407_480:=n23_
 have NB480_407:=n24_
 have NB408_480:=n25_
 have NB480_408:=n26_
 have NB444_480:=n27_
 have NB480_444:=n28_
 have NB458_480:=n29_
 have NB480_458:=n30_
 have HB:=n31_
 clear n0_ n1_ n2_ n3_ n4_ n5_ n6_ n7_ n8_ n9_ n10_ n11_ n12_ n13_ n14_ n15_ n16_ n17_ n18_ n19_ n20_ n21_ n22_ n23_ n24_ n25_ n26_ n27_ n28_ n29_ n30_ n31_
 have hHeld : w58.cell? ⟨gb458,0,none⟩ = some (.slice Ao45 t445.length co45)∧w58.cell? ⟨gb458,1,none⟩ = some (.slice Ao50 t448.length co50)∧w58.cell? ⟨gb458,2,none⟩ = some (.slice Ao51 t451.length co51)∧w58.cell? ⟨gb458,3,none⟩ = some (.int .i64 t454)∧w58.cell? ⟨gb458,4,none⟩ = some (.slice Ao52 t455.length co52)∧w58.cell? ⟨gb408,0,none⟩ = some (.int .i64 a1_0)∧w58.cell? ⟨gb408,1,none⟩ = some (.int .i64 a1_1)∧w58.cell? ⟨gb408,2,none⟩ = some (.int .i64 a1_2)∧w58.cell? ⟨gb408,3,none⟩ = some (.int .i64 a1_3)∧w58.cell? ⟨gb408,4,none⟩ = some (.int .i64 a1_4)∧w58.cell? ⟨gb408,5,none⟩ = some (.int .i64 a1_5)∧w58.cell? ⟨gb408,6,none⟩ = some (.int .i64 a1_6):=hS_
 obtain ⟨Ao59,co59,eo59⟩:=Kd.R_slice HO468.out
 (first | subst eo59 | obtain ⟨rfl,rfl⟩:=se eo59)
 obtain ⟨Ao61,co61,eo61⟩:=Kd.R_slice HO471.out
 (first | subst eo61 | obtain ⟨rfl,rfl⟩:=se eo61)
 obtain ⟨Ao63,co63,eo63⟩:=Kd.R_slice HO474.out
 (first | subst eo63 | obtain ⟨rfl,rfl⟩:=se eo63)
 obtain ⟨Ao66,co66,eo66⟩:=Kd.R_slice HO478.out
 (first | subst eo66 | obtain ⟨rfl,rfl⟩:=se eo66)
 refine norm_ (a':=?_) ?_ ?_
 rotate_left
 ·simp only [putAll,Act.put,List.setIfInBounds_toArray,List.set_cons_zero,List.set_cons_succ]
  rfl
 refine ov 8 none 511 rfl rfl HT_ (fun K hK=>?_)
 have hs60 : w58.cell? ⟨gb480,0,none⟩ = some (.slice none 0 0):=ce BK480 0
 have hfs60:=blk_frozen BK480.out 0
 have hns60_0:=NB407_480.out
 have hns60_1:=NB408_480.out
 have hns60_2:=NB444_480.out
 have hns60_3:=NB458_480.out
 have hms60_0:=NB480_407.out
 have hms60_1:=NB480_408.out
 have hms60_2:=NB480_444.out
 have hms60_3:=NB480_458.out
 have hs62 : w58.cell? ⟨gb480,1,none⟩ = some (.slice none 0 0):=ce BK480 1
 have hfs62:=blk_frozen BK480.out 1
 have hns62_0:=NB407_480.out
 have hns62_1:=NB408_480.out
 have hns62_2:=NB444_480.out
 have hns62_3:=NB458_480.out
 have hms62_0:=NB480_407.out
 have hms62_1:=NB480_408.out
 have hms62_2:=NB480_444.out
 have hms62_3:=NB480_458.out
 have hs64 : w58.cell? ⟨gb480,2,none⟩ = some (.slice none 0 0):=ce BK480 2
 have hfs64:=blk_frozen BK480.out 2
 have hns64_0:=NB407_480.out
 have hns64_1:=NB408_480.out
 have hns64_2:=NB444_480.out
 have hns64_3:=NB458_480.out
 have hms64_0:=NB480_407.out
 have hms64_1:=NB480_408.out
 have hms64_2:=NB480_444.out
 have hms64_3:=NB480_458.out
 have hs65 : w58.cell? ⟨gb480,3,none⟩ = some (.int .i64 0):=ce BK480 3
 have hfs65:=blk_frozen BK480.out 3
 have hns65_0:=NB407_480.out
 have hns65_1:=NB408_480.out
 have hns65_2:=NB444_480.out
 have hns65_3:=NB458_480.out
 have hms65_0:=NB480_407.out
 have hms65_1:=NB480_408.out
 have hms65_2:=NB480_444.out
 have hms65_3:=NB480_458.out
 have hs67 : w58.cell? ⟨gb480,4,none⟩ = some (.slice none 0 0):=ce BK480 4
 have hfs67:=blk_frozen BK480.out 4
 have hns67_0:=NB407_480.out
 have hns67_1:=NB408_480.out
 have hns67_2:=NB444_480.out
 have hns67_3:=NB458_480.out
 have hms67_0:=NB480_407.out
 have hms67_1:=NB480_408.out
 have hms67_2:=NB480_444.out
 have hms67_3:=NB480_458.out
 refine skip_ (w1:=?_) (by rfl) rfl ?_ ?_
 rotate_left
 ·go_simp
  rfl
 refine hK.out _ _ ⟨((cell_far (p:=⟨gb480,_,none⟩) NB458_480.out _).trans (((cell_far (p:=⟨gb480,_,none⟩) NB458_480.out _).trans (((cell_far (p:=⟨gb480,_,none⟩) NB458_480.out _).trans (((cell_far (p:=⟨gb480,_,none⟩) NB458_480.out _).trans (((cell_far (p:=⟨gb480,_,none⟩) NB458_480.out _).trans (hHeld.1)))))))))),((cell_far (p:=⟨gb480,_,none⟩) NB458_480.out _).trans (((cell_far (p:=⟨gb480,_,none⟩) NB458_480.out _).trans (((cell_far (p:=⟨gb480,_,none⟩) NB458_480.out _).trans (((cell_far (p:=⟨gb480,_,none⟩) NB458_480.out _).trans (((cell_far (p:=⟨gb480,_,none⟩) NB458_480.out _).trans (hHeld.2.1)))))))))),((cell_far (p:=⟨gb480,_,none⟩) NB458_480.out _).trans (((cell_far (p:=⟨gb480,_,none⟩) NB458_480.out _).trans (((cell_far (p:=⟨gb480,_,none⟩) NB458_480.out _).trans (((cell_far (p:=⟨gb480,_,none⟩) NB458_480.out _).trans (((cell_far (p:=⟨gb480,_,none⟩) NB458_480.out _).trans (hHeld.2.2.1)))))))))),((cell_far (p:=⟨gb480,_,none⟩) NB458_480.out _).trans (((cell_far (p:=⟨gb480,_,none⟩) NB458_480.out _).trans (((cell_far (p:=⟨gb480,_,none⟩) NB458_480.out _).trans (((cell_far (p:=⟨gb480,_,none⟩) NB458_480.out _).trans (((cell_far (p:=⟨gb480,_,none⟩) NB458_480.out _).trans (hHeld.2.2.2.1)))))))))),((cell_far (p:=⟨gb480,_,none⟩) NB458_480.out _).trans (((cell_far (p:=⟨gb480,_,none⟩) NB458_480.out _).trans (((cell_far (p:=⟨gb480,_,none⟩) NB458_480.out _).trans (((cell_far (p:=⟨gb480,_,none⟩) NB458_480.out _).trans (((cell_far (p:=⟨gb480,_,none⟩) NB458_480.out _).trans (hHeld.2.2.2.2.1)))))))))),((cell_far (p:=⟨gb480,_,none⟩) NB408_480.out _).trans (((cell_far (p:=⟨gb480,_,none⟩) NB408_480.out _).trans (((cell_far (p:=⟨gb480,_,none⟩) NB408_480.out _).trans (((cell_far (p:=⟨gb480,_,none⟩) NB408_480.out _).trans (((cell_far (p:=⟨gb480,_,none⟩) NB408_480.out _).trans (hHeld.2.2.2.2.2.1)))))))))),((cell_far (p:=⟨gb480,_,none⟩) NB408_480.out _).trans (((cell_far (p:=⟨gb480,_,none⟩) NB408_480.out _).trans (((cell_far (p:=⟨gb480,_,none⟩) NB408_480.out _).trans (((cell_far (p:=⟨gb480,_,none⟩) NB408_480.out _).trans (((cell_far (p:=⟨gb480,_,none⟩) NB408_480.out _).trans (hHeld.2.2.2.2.2.2.1)))))))))),((cell_far (p:=⟨gb480,_,none⟩) NB408_480.out _).trans (((cell_far (p:=⟨gb480,_,none⟩) NB408_480.out _).trans (((cell_far (p:=⟨gb480,_,none⟩) NB408_480.out _).trans (((cell_far (p:=⟨gb480,_,none⟩) NB408_480.out _).trans (((cell_far (p:=⟨gb480,_,none⟩) NB408_480.out _).trans (hHeld.2.2.2.2.2.2.2.1)))))))))),((cell_far (p:=⟨gb480,_,none⟩) NB408_480.out _).trans (((cell_far (p:=⟨gb480,_,none⟩) NB408_480.out _).trans (((cell_far (p:=⟨gb480,_,none⟩) NB408_480.out _).trans (((cell_far (p:=⟨gb480,_,none⟩) NB408_480.out _).trans (((cell_far (p:=⟨gb480,_,none⟩) NB408_480.out _).trans (hHeld.2.2.2.2.2.2.2.2.1)))))))))),((cell_far (p:=⟨gb480,_,none⟩) NB408_480.out _).trans (((cell_far (p:=⟨gb480,_,none⟩) NB408_480.out _).trans (((cell_far (p:=⟨gb480,_,none⟩) NB408_480.out _).trans (((cell_far (p:=⟨gb480,_,none⟩) NB408_480.out _).trans (((cell_far (p:=⟨gb480,_,none⟩) NB408_480.out _).trans (hHeld.2.2.2.2.2.2.2.2.2.1)))))))))),((cell_far (p:=⟨gb480,_,none⟩) NB408_480.out _).trans (((cell_far (p:=⟨gb480,_,none⟩) NB408_480.out _).trans (((cell_far (p:=⟨gb480,_,none⟩) NB408_480.out _).trans (((cell_far (p:=⟨gb480,_,none⟩) NB408_480.out _).trans (((cell_far (p:=⟨gb480,_,none⟩) NB408_480.out _).trans (hHeld.2.2.2.2.2.2.2.2.2.2.1)))))))))),((cell_far (p:=⟨gb480,_,none⟩) NB408_480.out _).trans (((cell_far (p:=⟨gb480,_,none⟩) NB408_480.out _).trans (((cell_far (p:=⟨gb480,_,none⟩) NB408_480.out _).trans (((cell_far (p:=⟨gb480,_,none⟩) NB408_480.out _).trans (((cell_far (p:=⟨gb480,_,none⟩) NB408_480.out _).trans (hHeld.2.2.2.2.2.2.2.2.2.2.2))))))))))⟩ (fun hHeld=>?_)
 clear hK K
 refine pv 9 (some 10) 1023 rfl rfl HT_ ?_
 refine done_ (done_of HT_.out (by kernel_rfl)) ?_
 go_upto_region 8 with (fail)
 go_cut [46] (fun v46 wc=>∃ (kq : Nat) (x46_15 : Bool),v46 = .bool x46_15∧Aside0 (laws_FnExactKept.j0 kq t443 t479 x46_15 l0_0 l0_1 l0_2 a0_3 l0_4 a1_0 a1_1 a1_2 a1_3 a1_4 a1_5 a1_6 t430 t433 t436 t439 t440 t445 t448 t451 t454 t455 t466 t469 t472 t475 t476 = some true)∧Aside0 (kq ≤ k)∧Aside0 (Kd.R k134 134 wc w.heap.size (fun k_=>some k_ ≠ ((.slice Ao45 t445.length co45) : Value).ownBlock∧some k_ ≠ ((.slice Ao59 t466.length co59) : Value).ownBlock) (.slice Ao32 t430.length co32) t430)∧Aside0 (Kd.R (Kd.int .i64) 3 wc w.heap.size (fun k_=>some k_ ≠ ((.slice Ao39 t440.length co39) : Value).ownBlock∧some k_ ≠ ((.slice Ao50 t448.length co50) : Value).ownBlock∧some k_ ≠ ((.slice Ao52 t455.length co52) : Value).ownBlock∧some k_ ≠ ((.slice Ao61 t469.length co61) : Value).ownBlock∧some k_ ≠ ((.slice Ao66 t476.length co66) : Value).ownBlock) (.slice Ao34 t433.length co34) t433)∧Aside0 (Kd.R k127 127 wc w.heap.size (fun k_=>some k_ ≠ ((.slice Ao51 t451.length co51) : Value).ownBlock∧some k_ ≠ ((.slice Ao63 t472.length co63) : Value).ownBlock) (.slice Ao36 t436.length co36) t436)∧Aside0 (Kd.R (Kd.int .i64) 3 wc w.heap.size (fun k_=>some k_ ≠ ((.slice Ao34 t433.length co34) : Value).ownBlock∧some k_ ≠ ((.slice Ao50 t448.length co50) : Value).ownBlock∧some k_ ≠ ((.slice Ao52 t455.length co52) : Value).ownBlock∧some k_ ≠ ((.slice Ao61 t469.length co61) : Value).ownBlock∧some k_ ≠ ((.slice Ao66 t476.length co66) : Value).ownBlock) (.slice Ao39 t440.length co39) t440)∧Aside0 (Kd.R k134 134 wc w.heap.size (fun k_=>some k_ ≠ ((.slice Ao32 t430.length co32) : Value).ownBlock∧some k_ ≠ ((.slice Ao59 t466.length co59) : Value).ownBlock) (.slice Ao45 t445.length co45) t445)∧Aside0 (Kd.R (Kd.int .i64) 3 wc w.heap.size (fun k_=>some k_ ≠ ((.slice Ao34 t433.length co34) : Value).ownBlock∧some k_ ≠ ((.slice Ao39 t440.length co39) : Value).ownBlock∧some k_ ≠ ((.slice Ao52 t455.length co52) : Value).ownBlock∧some k_ ≠ ((.slice Ao61 t469.length co61) : Value).ownBlock∧some k_ ≠ ((.slice Ao66 t476.length co66) : Value).ownBlock) (.slice Ao50 t448.length co50) t448)∧Aside0 (Kd.R k127 127 wc w.heap.size (fun k_=>some k_ ≠ ((.slice Ao36 t436.length co36) : Value).ownBlock∧some k_ ≠ ((.slice Ao63 t472.length co63) : Value).ownBlock) (.slice Ao51 t451.length co51) t451)∧Aside0 (Kd.R (Kd.int .i64) 3 wc w.heap.size (fun k_=>some k_ ≠ ((.slice Ao34 t433.length co34) : Value).ownBlock∧some k_ ≠ ((.slice Ao39 t440.length co39) : Value).ownBlock∧some k_ ≠ ((.slice Ao50 t448.length co50) : Value).ownBlock∧some k_ ≠ ((.slice Ao61 t469.length co61) : Value).ownBlock∧some k_ ≠ ((.slice Ao66 t476.length co66) : Value).ownBlock) (.slice Ao52 t455.length co52) t455)∧Aside0 (Kd.R k134 134 wc w.heap.size (fun k_=>some k_ ≠ ((.slice Ao32 t430.length co32) : Value).ownBlock∧some k_ ≠ ((.slice Ao45 t445.length co45) : Value).ownBlock) (.slice Ao59 t466.length co59) t466)∧Aside0 (Kd.R (Kd.int .i64) 3 wc w.heap.size (fun k_=>some k_ ≠ ((.slice Ao34 t433.length co34) : Value).ownBlock∧some k_ ≠ ((.slice Ao39 t440.length co39) : Value).ownBlock∧some k_ ≠ ((.slice Ao50 t448.length co50) : Value).ownBlock∧some k_ ≠ ((.slice Ao52 t455.length co52) : Value).ownBlock∧some k_ ≠ ((.slice Ao66 t476.length co66) : Value).ownBlock) (.slice Ao61 t469.length co61) t469)∧Aside0 (Kd.R k127 127 wc w.heap.size (fun k_=>some k_ ≠ ((.slice Ao36 t436.length co36) : Value).ownBlock∧some k_ ≠ ((.slice Ao51 t451.length co51) : Value).ownBlock) (.slice Ao63 t472.length co63) t472)∧Aside0 (Kd.R (Kd.int .i64) 3 wc w.heap.size (fun k_=>some k_ ≠ ((.slice Ao34 t433.length co34) : Value).ownBlock∧some k_ ≠ ((.slice Ao39 t440.length co39) : Value).ownBlock∧some k_ ≠ ((.slice Ao50 t448.length co50) : Value).ownBlock∧some k_ ≠ ((.slice Ao52 t455.length co52) : Value).ownBlock∧some k_ ≠ ((.slice Ao61 t469.length co61) : Value).ownBlock) (.slice Ao66 t476.length co66) t476)∧Aside0 (wc.heap[gb407]? = some (.cells #[(.slice A0_0 l0_0.length c0_0),(.slice A0_1 l0_1.length c0_1),(.slice A0_2 l0_2.length c0_2),.int .i64 a0_3,(.slice A0_4 l0_4.length c0_4)] 45 (0,0)))∧Aside0 (wc.heap[gb408]? = some (.cells #[.int .i64 a1_0,.int .i64 a1_1,.int .i64 a1_2,.int .i64 a1_3,.int .i64 a1_4,.int .i64 a1_5,.int .i64 a1_6] 107 (0,0)))∧Aside0 (wc.heap[gb444]? = some (.cells #[(.slice Ao32 t430.length co32),(.slice Ao34 t433.length co34),(.slice Ao36 t436.length co36),.int .i64 t439,(.slice Ao39 t440.length co39)] 51 (0,0)))∧Aside0 (wc.heap[gb458]? = some (.cells #[(.slice Ao45 t445.length co45),(.slice Ao50 t448.length co50),(.slice Ao51 t451.length co51),.int .i64 t454,(.slice Ao52 t455.length co52)] 51 (0,0)))∧Aside0 (wc.heap[gb480]? = some (.cells #[(.slice Ao59 t466.length co59),(.slice Ao61 t469.length co61),(.slice Ao63 t472.length co63),.int .i64 t475,(.slice Ao66 t476.length co66)] 51 (0,0)))∧Aside0 (Below w.heap.size w wc))
 case first =>
  have H:=HC16.out
  clear HC16
  replace H:=Option.bind_eq_some_iff.mp H
  obtain ⟨t481,A680,H⟩:=H
  try dsimp only at H
  have A68:=ak A680
  clear A680
  by_cases c69 : t481 = true
  rotate_left
  ·replace c69:=Bool.eq_false_iff.mpr c69
   subst c69
   have H1 : (laws_FnExactKept.j0 k t443 t479 true l0_0 l0_1 l0_2 a0_3 l0_4 a1_0 a1_1 a1_2 a1_3 a1_4 a1_5 a1_6 t430 t433 t436 t439 t440 t445 t448 t451 t454 t455 t466 t469 t472 t475 t476) = some true:=by rw [if_neg (show ¬ (false = true) by decide)] at H;exact H
   exact absurd H1 (by cases k <;> simp [laws_FnExactKept.j0])
  subst c69
  have H1 : (laws_FnExactKept.j0 k t443 t479 (t479 != t443) l0_0 l0_1 l0_2 a0_3 l0_4 a1_0 a1_1 a1_2 a1_3 a1_4 a1_5 a1_6 t430 t433 t436 t439 t440 t445 t448 t451 t454 t455 t466 t469 t472 t475 t476) = some true:=by rw [if_pos rfl] at H;exact H
  clear H
  have H:=H1
  clear H1
  have H':=ak H
  clear H
  have hnb70:=NB480_407.out
  have hnc70:=NB407_480.out
  have hnb71:=NB480_408.out
  have hnc71:=NB408_480.out
  have hnb72:=NB480_444.out
  have hnc72:=NB444_480.out
  have hnb73:=NB480_458.out
  have hnc73:=NB458_480.out
  have hz74:=bc5 BK480
  have hnb75:=NB444_407.out
  have hnc75:=NB407_444.out
  have hnb76:=NB444_408.out
  have hnc76:=NB408_444.out
  have hnb77:=NB444_458.out
  have hnc77:=NB458_444.out
  have hz78:=bc5 BK444
  go_wp2_with (first | ((with_reducible refine gc (f:=27) rfl ?_);refine gl (some 40) Try.func27 #[.agg #[.slice Ao59 t466.length co59,.slice Ao61 t469.length co61,.slice Ao63 t472.length co63,.int .i64 t475,.slice Ao66 t476.length co66],.agg #[.slice Ao32 t430.length co32,.slice Ao34 t433.length co34,.slice Ao36 t436.length co36,.int .i64 t439,.slice Ao39 t440.length co39]] ?_;(with_reducible refine (laws_eqKeeper.calls k _ _ t466 _ _ t469 _ _ t472 t475 _ _ t476 _ _ t430 _ _ t433 _ _ t436 t439 _ _ t440 true _ ?side1 ?side2 ?side3 ?side4 ?side5 ?side6 ?side7 ?side8 ?side9 ?side10 ?side11 ?side12 ?side13 ?side14 ?side15 ?side16 A68.out).mono ?_);(case side1=>refine (Kd.R_reads' (e:=134) (base:=w.heap.size) (ok:=fun k_=>(some k_ ≠ (v411 : Value).ownBlock∧(some k_ ≠ (.slice Ao32 t430.length co32 : Value).ownBlock∧some k_ ≠ (.slice Ao45 t445.length co45 : Value).ownBlock))) (n:=t466.length) (c:=co59) ?_).2.2;exact (rfa HO468));(case side2=>exact (Kd.R_reads' HO468.out).2.1);(case side3=>refine (Kd.R_reads' (e:=3) (base:=w.heap.size) (ok:=fun k_=>(some k_ ≠ (v414 : Value).ownBlock∧(some k_ ≠ (v421 : Value).ownBlock∧(some k_ ≠ (.slice Ao34 t433.length co34 : Value).ownBlock∧(some k_ ≠ (.slice Ao39 t440.length co39 : Value).ownBlock∧(some k_ ≠ (.slice Ao50 t448.length co50 : Value).ownBlock∧(some k_ ≠ (.slice Ao52 t455.length co52 : Value).ownBlock∧some k_ ≠ (.slice Ao66 t476.length co66 : Value).ownBlock))))))) (n:=t469.length) (c:=co61) ?_).2.2;exact (rfa HO471));(case side4=>exact (Kd.R_reads' HO471.out).2.1);(case side5=>refine (Kd.R_reads' (e:=127) (base:=w.heap.size) (ok:=fun k_=>(some k_ ≠ (v417 : Value).ownBlock∧(some k_ ≠ (.slice Ao36 t436.length co36 : Value).ownBlock∧some k_ ≠ (.slice Ao51 t451.length co51 : Value).ownBlock))) (n:=t472.length) (c:=co63) ?_).2.2;exact (rfa HO474));(case side6=>exact (Kd.R_reads' HO474.out).2.1);(case side7=>refine (Kd.R_reads' (e:=3) (base:=w.heap.size) (ok:=fun k_=>(some k_ ≠ (v414 : Value).ownBlock∧(some k_ ≠ (v421 : Value).ownBlock∧(some k_ ≠ (.slice Ao34 t433.length co34 : Value).ownBlock∧(some k_ ≠ (.slice Ao39 t440.length co39 : Value).ownBlock∧(some k_ ≠ (.slice Ao50 t448.length co50 : Value).ownBlock∧(some k_ ≠ (.slice Ao52 t455.length co52 : Value).ownBlock∧some k_ ≠ (.slice Ao61 t469.length co61 : Value).ownBlock))))))) (n:=t476.length) (c:=co66) ?_).2.2;exact (rfa HO478));(case side8=>exact (Kd.R_reads' HO478.out).2.1);(case side9=>refine (Kd.R_reads' (e:=134) (base:=w.heap.size) (ok:=fun k_=>(some k_ ≠ (v411 : Value).ownBlock∧(some k_ ≠ (.slice Ao45 t445.length co45 : Value).ownBlock∧some k_ ≠ (.slice Ao59 t466.length co59 : Value).ownBlock))) (n:=t430.length) (c:=co32) ?_).2.2;exact (rfa HO432));(case side10=>exact (Kd.R_reads' HO432.out).2.1);(case side11=>refine (Kd.R_reads' (e:=3) (base:=w.heap.size) (ok:=fun k_=>(some k_ ≠ (v414 : Value).ownBlock∧(some k_ ≠ (v421 : Value).ownBlock∧(some k_ ≠ (.slice Ao39 t440.length co39 : Value).ownBlock∧(some k_ ≠ (.slice Ao50 t448.length co50 : Value).ownBlock∧(some k_ ≠ (.slice Ao52 t455.length co52 : Value).ownBlock∧(some k_ ≠ (.slice Ao61 t469.length co61 : Value).ownBlock∧some k_ ≠ (.slice Ao66 t476.length co66 : Value).ownBlock))))))) (n:=t433.length) (c:=co34) ?_).2.2;exact (rfa HO435));(case side12=>exact (Kd.R_reads' HO435.out).2.1);(case side13=>refine (Kd.R_reads' (e:=127) (base:=w.heap.size) (ok:=fun k_=>(some k_ ≠ (v417 : Value).ownBlock∧(some k_ ≠ (.slice Ao51 t451.length co51 : Value).ownBlock∧some k_ ≠ (.slice Ao63 t472.length co63 : Value).ownBlock))) (n:=t436.length) (c:=co36) ?_).2.2;exact (rfa HO438));(case side14=>exact (Kd.R_reads' HO438.out).2.1);(case side15=>refine (Kd.R_reads' (e:=3) (base:=w.heap.size) (ok:=fun k_=>(some k_ ≠ (v414 : Value).ownBlock∧(some k_ ≠ (v421 : Value).ownBlock∧(some k_ ≠ (.slice Ao34 t433.length co34 : Value).ownBlock∧(some k_ ≠ (.slice Ao50 t448.length co50 : Value).ownBlock∧(some k_ ≠ (.slice Ao52 t455.length co52 : Value).ownBlock∧(some k_ ≠ (.slice Ao61 t469.length co61 : Value).ownBlock∧some k_ ≠ (.slice Ao66 t476.length co66 : Value).ownBlock))))))) (n:=t440.length) (c:=co39) ?_).2.2;exact (rfa HO442));(case side16=>exact (Kd.R_reads' HO442.out).2.1);rintro e w79 ⟨rfl,hb⟩;refine ⟨_,rfl,?_⟩;have n_ : _∧_∧_∧_∧_∧_∧_∧_∧_∧_∧_∧_∧_∧_∧_∧_∧_∧_∧_∧_∧_∧_:=⟨kaf HO412 hb,kaf HO415 hb,kaf HO418 hb,kaf HO422 hb,kaf HO432 hb,kaf HO435 hb,kaf HO438 hb,kaf HO442 hb,kaf HO447 hb,kaf HO450 hb,kaf HO453 hb,kaf HO457 hb,kaf HO468 hb,kaf HO471 hb,kaf HO474 hb,kaf HO478 hb,kp #[.slice A0_0 l0_0.length c0_0,.slice A0_1 l0_1.length c0_1,.slice A0_2 l0_2.length c0_2,.int .i64 a0_3,.slice A0_4 l0_4.length c0_4] BK407 hb,kp #[.int .i64 a1_0,.int .i64 a1_1,.int .i64 a1_2,.int .i64 a1_3,.int .i64 a1_4,.int .i64 a1_5,.int .i64 a1_6] BK408 hb,kp #[.slice Ao32 t430.length co32,.slice Ao34 t433.length co34,.slice Ao36 t436.length co36,.int .i64 t439,.slice Ao39 t440.length co39] BK444 hb,kp #[.slice Ao45 t445.length co45,.slice Ao50 t448.length co50,.slice Ao51 t451.length co51,.int .i64 t454,.slice Ao52 t455.length co52] BK458 hb,kp #[.slice Ao59 t466.length co59,.slice Ao61 t469.length co61,.slice Ao63 t472.length co63,.int .i64 t475,.slice Ao66 t476.length co66] BK480 hb,kh HB hb⟩;clear HO412 HO415 HO418 HO422 HO432 HO435 HO438 HO442 HO447 HO450 HO453 HO457 HO468 HO471 HO474 HO478 BK407 BK408 BK444 BK458 BK480 HB;obtain ⟨HO412,HO415,HO418,HO422,HO432,HO435,HO438,HO442,HO447,HO450,HO453,HO457,HO468,HO471,HO474,HO478,BK407,BK408,BK444,BK458,BK480,HB⟩:=n_;(try clear hb);(try clear hb2);(try clear hk);(try clear hi)))
  go_meet
  case rel=>exact ⟨_,((t479 != t443)),(by first | rfl | (simp;done) | (simp [*];done)),H',⟨by first | omega | exact Nat.le_refl _⟩,⟨rm HO432 (fun _ hk=>⟨hk.2.1,hk.2.2⟩)⟩,⟨rm HO435 (fun _ hk=>⟨hk.2.2.1,⟨hk.2.2.2.1,⟨hk.2.2.2.2.1,⟨hk.2.2.2.2.2.1,hk.2.2.2.2.2.2⟩⟩⟩⟩)⟩,⟨rm HO438 (fun _ hk=>⟨hk.2.1,hk.2.2⟩)⟩,⟨rm HO442 (fun _ hk=>⟨hk.2.2.1,⟨hk.2.2.2.1,⟨hk.2.2.2.2.1,⟨hk.2.2.2.2.2.1,hk.2.2.2.2.2.2⟩⟩⟩⟩)⟩,⟨rm HO447 (fun _ hk=>⟨hk.2.1,hk.2.2⟩)⟩,⟨rm HO450 (fun _ hk=>⟨hk.2.2.1,⟨hk.2.2.2.1,⟨hk.2.2.2.2.1,⟨hk.2.2.2.2.2.1,hk.2.2.2.2.2.2⟩⟩⟩⟩)⟩,⟨rm HO453 (fun _ hk=>⟨hk.2.1,hk.2.2⟩)⟩,⟨rm HO457 (fun _ hk=>⟨hk.2.2.1,⟨hk.2.2.2.1,⟨hk.2.2.2.2.1,⟨hk.2.2.2.2.2.1,hk.2.2.2.2.2.2⟩⟩⟩⟩)⟩,⟨rm HO468 (fun _ hk=>⟨hk.2.1,hk.2.2⟩)⟩,⟨rm HO471 (fun _ hk=>⟨hk.2.2.1,⟨hk.2.2.2.1,⟨hk.2.2.2.2.1,⟨hk.2.2.2.2.2.1,hk.2.2.2.2.2.2⟩⟩⟩⟩)⟩,⟨rm HO474 (fun _ hk=>⟨hk.2.1,hk.2.2⟩)⟩,⟨rm HO478 (fun _ hk=>⟨hk.2.2.1,⟨hk.2.2.2.1,⟨hk.2.2.2.2.1,⟨hk.2.2.2.2.2.1,hk.2.2.2.2.2.2⟩⟩⟩⟩)⟩,⟨rk BK407.out⟩,⟨rk BK408.out⟩,⟨rk BK444.out⟩,⟨rk BK458.out⟩,⟨rk BK480.out⟩,⟨rbx HB⟩⟩
 case rest =>
  clear HC16
  try clear c2
  try clear p2
  try clear c6
  try clear c7
  try clear c8
  try clear c27
  try clear c29
  try clear c69
  try clear c70
  try clear c71
  try clear c72
  try clear c73
  try clear c75
  try clear c76
  try clear c77
  try clear c80
  try clear c81
  try clear c82
  try clear c83
  try clear c85
  try clear c86
  try clear c87
  try clear hz74
  try clear hz78
  try clear hcz84_0
  try clear hcz84_1
  try clear hcz84_2
  try clear hcz84_3
  try clear hcz84_4
  try clear hcz88_0
  try clear hcz88_1
  try clear hcz88_2
  try clear hcz88_3
  try clear hcz88_4
  try clear hfz84_0
  try clear hfz84_1
  try clear hfz84_2
  try clear hfz84_3
  try clear hfz84_4
  try clear hfz88_0
  try clear hfz88_1
  try clear hfz88_2
  try clear hfz88_3
  try clear hfz88_4
  obtain ⟨kq,x46_15,rfl,HA,HJ15,HO_445000,HO_445001,HO_445002,HO_445004,HO_459000,HO_459001,HO_459002,HO_459004,HO_481000,HO_481001,HO_481002,HO_481004,BK407,BK408,BK444,BK458,BK480,HB⟩:=hcut
  cases kq with
  | zero=>exact absurd HA.out (by simp [laws_FnExactKept.j0])
  | succ kj15 =>
   have H:=HA.out
   clear HA
   simp only [laws_FnExactKept.j0] at H
   by_cases c90 : x46_15 = true
   ·subst c90
    have H1 : (some false) = some true:=by rw [if_pos rfl] at H;exact H
    exact absurd H1 (by simp)
   replace c90:=Bool.eq_false_iff.mpr c90
   subst c90
   rw [if_neg (show ¬ (false = true) by decide)] at H
   replace H:=Option.bind_eq_some_iff.mp H
   obtain ⟨⟨t482,t485,t488,t491,t492⟩,A910,H⟩:=H
   try dsimp only at H
   have A91:=ak A910
   clear A910
   replace H:=Option.bind_eq_some_iff.mp H
   obtain ⟨t495,A920,H⟩:=H
   try dsimp only at H
   have A92:=ak A920
   clear A920
   by_cases c93 : t495 = true
   rotate_left
   ·replace c93:=Bool.eq_false_iff.mpr c93
    subst c93
    have H1 : (some false) = some true:=by rw [if_neg (show ¬ (false = true) by decide)] at H;exact H
    exact absurd H1 (by simp)
   subst c93
   have H1 : ((laws_markKeeper.f kj15 t445 t448 t451 t454 t455 1).bind fun bt496=>(if bt496.1 < 0 then (laws_FnExactKept.j1 kj15 t443 true l0_0 l0_1 l0_2 a0_3 l0_4 a1_0 a1_1 a1_2 a1_3 a1_4 a1_5 a1_6 t430 t433 t436 t439 t440 t466 t469 t472 t475 t476) else ((laws_eqKeeper.f kj15 t466 t469 t472 t475 t476 t430 t433 t436 t439 t440).bind fun t501=>(if t501 = true then (laws_FnExactKept.j1 kj15 t443 (t479 != t443) l0_0 l0_1 l0_2 a0_3 l0_4 a1_0 a1_1 a1_2 a1_3 a1_4 a1_5 a1_6 t430 t433 t436 t439 t440 t466 t469 t472 t475 t476) else (laws_FnExactKept.j1 kj15 t443 true l0_0 l0_1 l0_2 a0_3 l0_4 a1_0 a1_1 a1_2 a1_3 a1_4 a1_5 a1_6 t430 t433 t436 t439 t440 t466 t469 t472 t475 t476))))) = some true:=by rw [if_pos rfl] at H;exact H
   clear H
   have H:=H1
   clear H1
   replace H:=Option.bind_eq_some_iff.mp H
   obtain ⟨⟨t496,t497,t498,t499,t500⟩,A940,H⟩:=H
   try dsimp only at H
   have A94:=ak A940
   clear A940
   have HC95:=ak H
   clear H
   try go_wp2
   have n_ : _∧_∧_∧_∧_∧_∧_∧_∧_∧_∧_∧_∧_∧_∧_∧_∧_∧_:=⟨ak (Kd.R_drew HO_445000.out),ak (Kd.R_drew HO_445001.out),ak (Kd.R_drew HO_445002.out),ak (Kd.R_drew HO_445004.out),ak (Kd.R_drew HO_459000.out),ak (Kd.R_drew HO_459001.out),ak (Kd.R_drew HO_459002.out),ak (Kd.R_drew HO_459004.out),ak (Kd.R_drew HO_481000.out),ak (Kd.R_drew HO_481001.out),ak (Kd.R_drew HO_481002.out),ak (Kd.R_drew HO_481004.out),ak (blk_drew BK407.out),ak (blk_drew BK408.out),ak (blk_drew BK444.out),ak (blk_drew BK458.out),ak (blk_drew BK480.out),ak (below_drew1 HB.out)⟩
   clear HO_445000 HO_445001 HO_445002 HO_445004 HO_459000 HO_459001 HO_459002 HO_459004 HO_481000 HO_481001 HO_481002 HO_481004 BK407 BK408 BK444 BK458 BK480 HB
   obtain ⟨HO_445000,HO_445001,HO_445002,HO_445004,HO_459000,HO_459001,HO_459002,HO_459004,HO_481000,HO_481001,HO_481002,HO_481004,BK407,BK408,BK444,BK458,BK480,HB⟩:=n_
   refine start_ (n:=5) (S:=fun w'=>w'.cell? ⟨gb458,0,none⟩ = some (.slice Ao45 t445.length co45)∧w'.cell? ⟨gb458,1,none⟩ = some (.slice Ao50 t448.length co50)∧w'.cell? ⟨gb458,2,none⟩ = some (.slice Ao51 t451.length co51)∧w'.cell? ⟨gb458,3,none⟩ = some (.int .i64 t454)∧w'.cell? ⟨gb458,4,none⟩ = some (.slice Ao52 t455.length co52)∧w'.cell? ⟨gb407,0,none⟩ = some (.slice A0_0 l0_0.length c0_0)∧w'.cell? ⟨gb407,1,none⟩ = some (.slice A0_1 l0_1.length c0_1)∧w'.cell? ⟨gb407,2,none⟩ = some (.slice A0_2 l0_2.length c0_2)∧w'.cell? ⟨gb407,3,none⟩ = some (.int .i64 a0_3)∧w'.cell? ⟨gb407,4,none⟩ = some (.slice A0_4 l0_4.length c0_4)) (ds:=[]) (lb 5 0) (by kernel_rfl) rfl (by kernel_rfl) ⟨ce BK458 0,ce BK458 1,ce BK458 2,ce BK458 3,ce BK458 4,ce BK407 0,ce BK407 1,ce BK407 2,ce BK407 3,ce BK407 4⟩ (fun hHeld=>?_)
   generalize wc.drew = w96 at HO_445000 HO_445001 HO_445002 HO_445004 HO_459000 HO_459001 HO_459002 HO_459004 HO_481000 HO_481001 HO_481002 HO_481004 BK407 BK408 BK444 BK458 BK480 HB hHeld ⊢
   refine take_ (i:=0) (N:=some 47) (v:=?_) (a':=?_) (lb 5 1) rfl rfl (by kernel_rfl) (fun _ _ _ h=>h) (Or.inl ⟨by rfl,?_⟩) hHeld ?_ ?_
   rotate_left
   ·rintro w' ⟨s0,s1,s2,s3,s4,s5,s6,s7,s8,s9⟩
    go_simp
    with_reducible rfl
   rotate_left
   ·simp only [Act.put,List.setIfInBounds_toArray,List.set_cons_zero,List.set_cons_succ,i64_w,i32_w]
    rfl
   refine take_ (i:=1) (N:=some 48) (v:=?_) (a':=?_) (lb 5 3) rfl rfl (by kernel_rfl) (fun _ _ _ h=>h) (Or.inl ⟨by rfl,?_⟩) hHeld ?_ ?_
   rotate_left
   ·rintro w' ⟨s0,s1,s2,s3,s4,s5,s6,s7,s8,s9⟩
    go_simp
    with_reducible rfl
   rotate_left
   ·simp only [Act.put,List.setIfInBounds_toArray,List.set_cons_zero,List.set_cons_succ,i64_w,i32_w]
    rfl
   refine one_ (i:=2) (N:=some 49) (lb 5 7) rfl rfl (by kernel_rfl) (by decide) (fun K hK=>?_)
   refine gv Try.func25 #[.agg #[.slice A0_0 l0_0.length c0_0,.slice A0_1 l0_1.length c0_1,.slice A0_2 l0_2.length c0_2,.int .i64 a0_3,.slice A0_4 l0_4.length c0_4]] rfl rfl rfl ?_
   with_reducible refine (laws_toKeeper.calls kj15 _ _ l0_0 _ _ l0_1 _ _ l0_2 a0_3 _ _ l0_4 t482 t485 t488 t491 t492 _ ?side1 ?side2 ?side3 ?side4 ?side5 ?side6 ?side7 ?side8 A91.out).mono ?_
   (case side1=>exact rc (Kd.C_below HR0_0.out HB.out))
   (case side2=>exact HC0_0.out)
   (case side3=>exact rc (Kd.C_below HR0_1.out HB.out))
   (case side4=>exact HC0_1.out)
   (case side5=>exact rc (Kd.C_below HR0_2.out HB.out))
   (case side6=>exact HC0_2.out)
   (case side7=>exact rc (Kd.C_below HR0_4.out HB.out))
   (case side8=>exact HC0_4.out)
   rintro e w97 ⟨v483,v486,v489,v493,rfl,ho0,ho1,ho2,ho3,hb⟩
   refine ⟨_,rfl,?_⟩
   have n_ : _∧_∧_∧_∧_∧_∧_∧_∧_∧_∧_∧_∧_∧_∧_∧_∧_∧_∧_∧_∧_∧_:=⟨ke HO_445000 ho0 hb,ak (Kd.R_mono (Kd.R_told (Kd.R_told (Kd.R_old (rr HO_445001.out) hb) (Kd.R_base ho1)) (Kd.R_base ho3)) (fun _ h_=>h_.1)),ke HO_445002 ho2 hb,ak (Kd.R_mono (Kd.R_told (Kd.R_told (Kd.R_old (rr HO_445004.out) hb) (Kd.R_base ho1)) (Kd.R_base ho3)) (fun _ h_=>h_.1)),ke HO_459000 ho0 hb,ak (Kd.R_mono (Kd.R_told (Kd.R_told (Kd.R_old (rr HO_459001.out) hb) (Kd.R_base ho1)) (Kd.R_base ho3)) (fun _ h_=>h_.1)),ke HO_459002 ho2 hb,ak (Kd.R_mono (Kd.R_told (Kd.R_told (Kd.R_old (rr HO_459004.out) hb) (Kd.R_base ho1)) (Kd.R_base ho3)) (fun _ h_=>h_.1)),ke HO_481000 ho0 hb,ak (Kd.R_mono (Kd.R_told (Kd.R_told (Kd.R_old (rr HO_481001.out) hb) (Kd.R_base ho1)) (Kd.R_base ho3)) (fun _ h_=>h_.1)),ke HO_481002 ho2 hb,ak (Kd.R_mono (Kd.R_told (Kd.R_told (Kd.R_old (rr HO_481004.out) hb) (Kd.R_base ho1)) (Kd.R_base ho3)) (fun _ h_=>h_.1)),kl (kn (kn (kn ho0 HO_445000) HO_459000) HO_481000) HB,kl (kn (kn (kn (kn (kn (kn ho1 HO_445001) HO_445004) HO_459001) HO_459004) HO_481001) HO_481004) HB,kl (kn (kn (kn ho2 HO_445002) HO_459002) HO_481002) HB,kl (kn (kn (kn (kn (kn (kn ho3 HO_445001) HO_445004) HO_459001) HO_459004) HO_481001) HO_481004) HB,kb BK407 hb,kb BK408 hb,kb BK444 hb,kb BK458 hb,kb BK480 hb,kh HB hb⟩
   clear HO_445000 HO_445001 HO_445002 HO_445004 HO_459000 HO_459001 HO_459002 HO_459004 HO_481000 HO_481001 HO_481002 HO_481004 BK407 BK408 BK444 BK458 BK480 HB
   obtain ⟨HO_445000,HO_445001,HO_445002,HO_445004,HO_459000,HO_459001,HO_459002,HO_459004,HO_481000,HO_481001,HO_481002,HO_481004,HO484,HO487,HO490,HO494,BK407,BK408,BK444,BK458,BK480,HB⟩:=n_
   (try clear hb)
   (try clear hb2)
   (try clear hk)
   (try clear hi)
   (try clear ho0)
   (try clear ho1)
   (try clear ho2)
   (try clear ho3)
   obtain ⟨Ao98,co98,eo98⟩:=Kd.R_slice HO484.out
   (first | subst eo98 | obtain ⟨rfl,rfl⟩:=se eo98)
   obtain ⟨Ao99,co99,eo99⟩:=Kd.R_slice HO487.out
   (first | subst eo99 | obtain ⟨rfl,rfl⟩:=se eo99)
   obtain ⟨Ao100,co100,eo100⟩:=Kd.R_slice HO490.out
   (first | subst eo100 | obtain ⟨rfl,rfl⟩:=se eo100)
   obtain ⟨Ao101,co101,eo101⟩:=Kd.R_slice HO494.out
   (first | subst eo101 | obtain ⟨rfl,rfl⟩:=se eo101)
   refine hK.out _ _ ⟨ce BK458 0,ce BK458 1,ce BK458 2,ce BK458 3,ce BK458 4,ce BK407 0,ce BK407 1,ce BK407 2,ce BK407 3,ce BK407 4⟩ (fun hHeld=>?_)
   clear hK K
   refine nv 49 ?_
   refine one_ (i:=3) (N:=some 50) (lb 5 15) rfl rfl (by kernel_rfl) (by decide) (fun K hK=>?_)
   refine gv Try.func27 #[.agg #[.slice Ao45 t445.length co45,.slice Ao50 t448.length co50,.slice Ao51 t451.length co51,.int .i64 t454,.slice Ao52 t455.length co52],.agg #[.slice Ao98 t482.length co98,.slice Ao99 t485.length co99,.slice Ao100 t488.length co100,.int .i64 t491,.slice Ao101 t492.length co101]] rfl rfl rfl ?_
   with_reducible refine (laws_eqKeeper.calls kj15 _ _ t445 _ _ t448 _ _ t451 t454 _ _ t455 _ _ t482 _ _ t485 _ _ t488 t491 _ _ t492 true _ ?side1 ?side2 ?side3 ?side4 ?side5 ?side6 ?side7 ?side8 ?side9 ?side10 ?side11 ?side12 ?side13 ?side14 ?side15 ?side16 A92.out).mono ?_
   (case side1=>exact rc (Kd.R_reads' HO_459000.out).2.2)
   (case side2=>exact (Kd.R_reads' HO_459000.out).2.1)
   (case side3=>exact rc (Kd.R_reads' HO_459001.out).2.2)
   (case side4=>exact (Kd.R_reads' HO_459001.out).2.1)
   (case side5=>exact rc (Kd.R_reads' HO_459002.out).2.2)
   (case side6=>exact (Kd.R_reads' HO_459002.out).2.1)
   (case side7=>exact rc (Kd.R_reads' HO_459004.out).2.2)
   (case side8=>exact (Kd.R_reads' HO_459004.out).2.1)
   (case side9=>exact rc (Kd.R_reads' HO484.out).2.2)
   (case side10=>exact (Kd.R_reads' HO484.out).2.1)
   (case side11=>exact rc (Kd.R_reads' HO487.out).2.2)
   (case side12=>exact (Kd.R_reads' HO487.out).2.1)
   (case side13=>exact rc (Kd.R_reads' HO490.out).2.2)
   (case side14=>exact (Kd.R_reads' HO490.out).2.1)
   (case side15=>exact rc (Kd.R_reads' HO494.out).2.2)
   (case side16=>exact (Kd.R_reads' HO494.out).2.1)
   rintro e w102 ⟨rfl,hb⟩
   refine ⟨_,rfl,?_⟩
   have n_ : _∧_∧_∧_∧_∧_∧_∧_∧_∧_∧_∧_∧_∧_∧_∧_∧_∧_∧_∧_∧_∧_:=⟨ka HO_445000 hb,ka HO_445001 hb,ka HO_445002 hb,ka HO_445004 hb,ka HO_459000 hb,ka HO_459001 hb,ka HO_459002 hb,ka HO_459004 hb,ka HO_481000 hb,ka HO_481001 hb,ka HO_481002 hb,ka HO_481004 hb,ka HO484 hb,ka HO487 hb,ka HO490 hb,ka HO494 hb,kb BK407 hb,kb BK408 hb,kb BK444 hb,kb BK458 hb,kb BK480 hb,kh HB hb⟩
   clear HO_445000 HO_445001 HO_445002 HO_445004 HO_459000 HO_459001 HO_459002 HO_459004 HO_481000 HO_481001 HO_481002 HO_481004 HO484 HO487 HO490 HO494 BK407 BK408 BK444 BK458 BK480 HB
   obtain ⟨HO_445000,HO_445001,HO_445002,HO_445004,HO_459000,HO_459001,HO_459002,HO_459004,HO_481000,HO_481001,HO_481002,HO_481004,HO484,HO487,HO490,HO494,BK407,BK408,BK444,BK458,BK480,HB⟩:=n_
   (try clear hb)
   (try clear hb2)
   (try clear hk)
   (try clear hi)
   refine hK.out _ _ ⟨ce BK458 0,ce BK458 1,ce BK458 2,ce BK458 3,ce BK458 4,ce BK407 0,ce BK407 1,ce BK407 2,ce BK407 3,ce BK407 4⟩ (fun hHeld=>?_)
   clear hK K
   refine nv 50 ?_
   refine pure_ (i:=4) (N:=some 51) (v:=?_) (a':=?_) (lb 5 31) rfl rfl (by kernel_rfl) (fun _ _ _ h=>h) (Or.inl ⟨by rfl,?_⟩) ?_ ?_
   rotate_left
   ·intro w'
    go_simp
    with_reducible rfl
   rotate_left
   ·simp only [Act.put,List.setIfInBounds_toArray,List.set_cons_zero,List.set_cons_succ,i64_w,i32_w]
    rfl
   refine done_ (by kernel_rfl) ?_
   have hnb103:=NB458_407.out
   have hnc103:=NB407_458.out
   have hnb104:=NB458_408.out
   have hnc104:=NB408_458.out
   have hnb105:=NB458_444.out
   have hnc105:=NB444_458.out
   have hnb106:=NB458_480.out
   have hnc106:=NB480_458.out
   have hz107:=bc5 BK458
   go_upto_region 14 with (first | ((with_reducible refine gc (f:=84) rfl ?_);refine gl (some 54) Try.func84 #[.agg #[.slice Ao45 t445.length co45,.slice Ao50 t448.length co50,.slice Ao51 t451.length co51,.int .i64 t454,.slice Ao52 t455.length co52],.int .i64 1] ?_;(with_reducible refine (laws_markKeeper.calls kj15 (fun k_=>some k_ = (.slice Ao45 t445.length co45 : Value).ownBlock) (.slice Ao45 t445.length co45) t445 (fun k_=>some k_ = (.slice Ao50 t448.length co50 : Value).ownBlock) (.slice Ao50 t448.length co50) t448 (fun k_=>some k_ = (.slice Ao51 t451.length co51 : Value).ownBlock) (.slice Ao51 t451.length co51) t451 t454 (fun k_=>some k_ = (.slice Ao52 t455.length co52 : Value).ownBlock) (.slice Ao52 t455.length co52) t455 1 t496 t497 t498 t499 t500 w _ ?side1 ?side2 ?side3 ?side4 ?side5 ?side6 ?side7 A94.out).mono ?_);(case side1=>repeat (first | (with_reducible first | exact HB.out | apply below_alloc | apply pw_below_drewN | apply below_drew1 | refine below_set ?_ GE407.out | refine below_set ?_ GE408.out | refine below_set ?_ GE444.out | refine below_set ?_ GE458.out | refine below_set ?_ GE480.out) | exact HB.out));(case side2=>exact Kd.R_tight rfl HO_459000.out);(case side3=>exact Kd.R_tight rfl HO_459001.out);(case side4=>exact fun k_ e_=>(HO_459001.out.1 k_ e_.symm).1.1.2.2.1);(case side5=>exact Kd.R_tight rfl HO_459002.out);(case side6=>exact Kd.R_tight rfl HO_459004.out);(case side7=>exact fun k_ e_=>(HO_459004.out.1 k_ e_.symm).1.1.2.2.1);rintro e w108 ⟨rfl,hy0,hy1,hy2,hy3,hb,hkp⟩;refine ⟨_,rfl,?_⟩;have n_ : _∧_∧_∧_∧_∧_∧_∧_∧_∧_∧_∧_∧_∧_∧_∧_∧_∧_∧_∧_∧_∧_:=⟨ak (Kd.R_mono (ok':=fun k_=>some k_ ≠ (.slice Ao45 t445.length co45 : Value).ownBlock∧some k_ ≠ (.slice Ao59 t466.length co59 : Value).ownBlock∧some k_ ≠ (.slice Ao98 t482.length co98 : Value).ownBlock) (Kd.R_keptB ((Kd.R_apart' (Kd.R_apart' (Kd.R_apart' HO_445000.out (Kd.R_typed HO_459001.out) (by decide)) (Kd.R_typed HO_459002.out) (by decide)) (Kd.R_typed HO_459004.out) (by decide))) hkp (fun k_ hk_ hs_=>Or.elim hs_ (fun e_=>(hk_.1.1.1.1.1) e_) (fun e_=>Or.elim e_ (fun e_=>(hk_.1.1.2) e_) (fun e_=>Or.elim e_ (fun e_=>(hk_.1.2) e_) (fun e_=>(hk_.2) e_))))) (fun k_ hk_=>⟨hk_.1.1.1.1.1.1,hk_.1.1.1.1.1.2,hk_.1.1.1.1.2⟩)),ak (Kd.R_mono (ok':=fun k_=>some k_ ≠ (.slice Ao39 t440.length co39 : Value).ownBlock∧some k_ ≠ (.slice Ao50 t448.length co50 : Value).ownBlock∧some k_ ≠ (.slice Ao52 t455.length co52 : Value).ownBlock∧some k_ ≠ (.slice Ao61 t469.length co61 : Value).ownBlock∧some k_ ≠ (.slice Ao66 t476.length co66 : Value).ownBlock∧some k_ ≠ (.slice Ao99 t485.length co99 : Value).ownBlock∧some k_ ≠ (.slice Ao101 t492.length co101 : Value).ownBlock) (Kd.R_keptB ((Kd.R_apart' (Kd.R_apart' HO_445001.out (Kd.R_typed HO_459000.out) (by decide)) (Kd.R_typed HO_459002.out) (by decide))) hkp (fun k_ hk_ hs_=>Or.elim hs_ (fun e_=>(hk_.1.2) e_) (fun e_=>Or.elim e_ (fun e_=>(hk_.1.1.1.1.2.1) e_) (fun e_=>Or.elim e_ (fun e_=>(hk_.2) e_) (fun e_=>(hk_.1.1.1.1.2.2.1) e_))))) (fun k_ hk_=>⟨hk_.1.1.1.1.1.1,hk_.1.1.1.1.1.2.1,hk_.1.1.1.1.1.2.2.1,hk_.1.1.1.1.1.2.2.2.1,hk_.1.1.1.1.1.2.2.2.2,hk_.1.1.1.1.2,hk_.1.1.1.2⟩)),ak (Kd.R_mono (ok':=fun k_=>some k_ ≠ (.slice Ao51 t451.length co51 : Value).ownBlock∧some k_ ≠ (.slice Ao63 t472.length co63 : Value).ownBlock∧some k_ ≠ (.slice Ao100 t488.length co100 : Value).ownBlock) (Kd.R_keptB ((Kd.R_apart' (Kd.R_apart' (Kd.R_apart' HO_445002.out (Kd.R_typed HO_459000.out) (by decide)) (Kd.R_typed HO_459001.out) (by decide)) (Kd.R_typed HO_459004.out) (by decide))) hkp (fun k_ hk_ hs_=>Or.elim hs_ (fun e_=>(hk_.1.1.2) e_) (fun e_=>Or.elim e_ (fun e_=>(hk_.1.2) e_) (fun e_=>Or.elim e_ (fun e_=>(hk_.1.1.1.1.1) e_) (fun e_=>(hk_.2) e_))))) (fun k_ hk_=>⟨hk_.1.1.1.1.1.1,hk_.1.1.1.1.1.2,hk_.1.1.1.1.2⟩)),ak (Kd.R_mono (ok':=fun k_=>some k_ ≠ (.slice Ao34 t433.length co34 : Value).ownBlock∧some k_ ≠ (.slice Ao50 t448.length co50 : Value).ownBlock∧some k_ ≠ (.slice Ao52 t455.length co52 : Value).ownBlock∧some k_ ≠ (.slice Ao61 t469.length co61 : Value).ownBlock∧some k_ ≠ (.slice Ao66 t476.length co66 : Value).ownBlock∧some k_ ≠ (.slice Ao99 t485.length co99 : Value).ownBlock∧some k_ ≠ (.slice Ao101 t492.length co101 : Value).ownBlock) (Kd.R_keptB ((Kd.R_apart' (Kd.R_apart' HO_445004.out (Kd.R_typed HO_459000.out) (by decide)) (Kd.R_typed HO_459002.out) (by decide))) hkp (fun k_ hk_ hs_=>Or.elim hs_ (fun e_=>(hk_.1.2) e_) (fun e_=>Or.elim e_ (fun e_=>(hk_.1.1.1.1.2.1) e_) (fun e_=>Or.elim e_ (fun e_=>(hk_.2) e_) (fun e_=>(hk_.1.1.1.1.2.2.1) e_))))) (fun k_ hk_=>⟨hk_.1.1.1.1.1.1,hk_.1.1.1.1.1.2.1,hk_.1.1.1.1.1.2.2.1,hk_.1.1.1.1.1.2.2.2.1,hk_.1.1.1.1.1.2.2.2.2,hk_.1.1.1.1.2,hk_.1.1.1.2⟩)),ak (Kd.R_reok rfl hy0 (fun k_ e_=>HO_459000.out.1 k_ e_)),ak (Kd.R_reok rfl hy1 (fun k_ e_=>HO_459001.out.1 k_ e_)),ak (Kd.R_reok rfl hy2 (fun k_ e_=>HO_459002.out.1 k_ e_)),ak (Kd.R_reok rfl hy3 (fun k_ e_=>HO_459004.out.1 k_ e_)),ak (Kd.R_mono (ok':=fun k_=>some k_ ≠ (.slice Ao32 t430.length co32 : Value).ownBlock∧some k_ ≠ (.slice Ao45 t445.length co45 : Value).ownBlock∧some k_ ≠ (.slice Ao98 t482.length co98 : Value).ownBlock) (Kd.R_keptB ((Kd.R_apart' (Kd.R_apart' (Kd.R_apart' HO_481000.out (Kd.R_typed HO_459001.out) (by decide)) (Kd.R_typed HO_459002.out) (by decide)) (Kd.R_typed HO_459004.out) (by decide))) hkp (fun k_ hk_ hs_=>Or.elim hs_ (fun e_=>(hk_.1.1.1.1.2) e_) (fun e_=>Or.elim e_ (fun e_=>(hk_.1.1.2) e_) (fun e_=>Or.elim e_ (fun e_=>(hk_.1.2) e_) (fun e_=>(hk_.2) e_))))) (fun k_ hk_=>⟨hk_.1.1.1.1.1.1,hk_.1.1.1.1.1.2,hk_.1.1.1.1.2⟩)),ak (Kd.R_mono (ok':=fun k_=>some k_ ≠ (.slice Ao34 t433.length co34 : Value).ownBlock∧some k_ ≠ (.slice Ao39 t440.length co39 : Value).ownBlock∧some k_ ≠ (.slice Ao50 t448.length co50 : Value).ownBlock∧some k_ ≠ (.slice Ao52 t455.length co52 : Value).ownBlock∧some k_ ≠ (.slice Ao66 t476.length co66 : Value).ownBlock∧some k_ ≠ (.slice Ao99 t485.length co99 : Value).ownBlock∧some k_ ≠ (.slice Ao101 t492.length co101 : Value).ownBlock) (Kd.R_keptB ((Kd.R_apart' (Kd.R_apart' HO_481001.out (Kd.R_typed HO_459000.out) (by decide)) (Kd.R_typed HO_459002.out) (by decide))) hkp (fun k_ hk_ hs_=>Or.elim hs_ (fun e_=>(hk_.1.2) e_) (fun e_=>Or.elim e_ (fun e_=>(hk_.1.1.1.1.2.2.1) e_) (fun e_=>Or.elim e_ (fun e_=>(hk_.2) e_) (fun e_=>(hk_.1.1.1.1.2.2.2.1) e_))))) (fun k_ hk_=>⟨hk_.1.1.1.1.1.1,hk_.1.1.1.1.1.2.1,hk_.1.1.1.1.1.2.2.1,hk_.1.1.1.1.1.2.2.2.1,hk_.1.1.1.1.1.2.2.2.2,hk_.1.1.1.1.2,hk_.1.1.1.2⟩)),ak (Kd.R_mono (ok':=fun k_=>some k_ ≠ (.slice Ao36 t436.length co36 : Value).ownBlock∧some k_ ≠ (.slice Ao51 t451.length co51 : Value).ownBlock∧some k_ ≠ (.slice Ao100 t488.length co100 : Value).ownBlock) (Kd.R_keptB ((Kd.R_apart' (Kd.R_apart' (Kd.R_apart' HO_481002.out (Kd.R_typed HO_459000.out) (by decide)) (Kd.R_typed HO_459001.out) (by decide)) (Kd.R_typed HO_459004.out) (by decide))) hkp (fun k_ hk_ hs_=>Or.elim hs_ (fun e_=>(hk_.1.1.2) e_) (fun e_=>Or.elim e_ (fun e_=>(hk_.1.2) e_) (fun e_=>Or.elim e_ (fun e_=>(hk_.1.1.1.1.2) e_) (fun e_=>(hk_.2) e_))))) (fun k_ hk_=>⟨hk_.1.1.1.1.1.1,hk_.1.1.1.1.1.2,hk_.1.1.1.1.2⟩)),ak (Kd.R_mono (ok':=fun k_=>some k_ ≠ (.slice Ao34 t433.length co34 : Value).ownBlock∧some k_ ≠ (.slice Ao39 t440.length co39 : Value).ownBlock∧some k_ ≠ (.slice Ao50 t448.length co50 : Value).ownBlock∧some k_ ≠ (.slice Ao52 t455.length co52 : Value).ownBlock∧some k_ ≠ (.slice Ao61 t469.length co61 : Value).ownBlock∧some k_ ≠ (.slice Ao99 t485.length co99 : Value).ownBlock∧some k_ ≠ (.slice Ao101 t492.length co101 : Value).ownBlock) (Kd.R_keptB ((Kd.R_apart' (Kd.R_apart' HO_481004.out (Kd.R_typed HO_459000.out) (by decide)) (Kd.R_typed HO_459002.out) (by decide))) hkp (fun k_ hk_ hs_=>Or.elim hs_ (fun e_=>(hk_.1.2) e_) (fun e_=>Or.elim e_ (fun e_=>(hk_.1.1.1.1.2.2.1) e_) (fun e_=>Or.elim e_ (fun e_=>(hk_.2) e_) (fun e_=>(hk_.1.1.1.1.2.2.2.1) e_))))) (fun k_ hk_=>⟨hk_.1.1.1.1.1.1,hk_.1.1.1.1.1.2.1,hk_.1.1.1.1.1.2.2.1,hk_.1.1.1.1.1.2.2.2.1,hk_.1.1.1.1.1.2.2.2.2,hk_.1.1.1.1.2,hk_.1.1.1.2⟩)),ak (blk_kept (rk BK407.out) hkp (fun hs_=>Or.elim hs_ (fun e_=>(fun e_=>(Kd.R_ne HO_459000.out BK407.out (by decide)) e_) e_) (fun e_=>Or.elim e_ (fun e_=>(fun e_=>(Kd.R_ne HO_459001.out BK407.out (by decide)) e_) e_) (fun e_=>Or.elim e_ (fun e_=>(fun e_=>(Kd.R_ne HO_459002.out BK407.out (by decide)) e_) e_) (fun e_=>(fun e_=>(Kd.R_ne HO_459004.out BK407.out (by decide)) e_) e_))))),ak (blk_kept (rk BK408.out) hkp (fun hs_=>Or.elim hs_ (fun e_=>(fun e_=>(Kd.R_ne HO_459000.out BK408.out (by decide)) e_) e_) (fun e_=>Or.elim e_ (fun e_=>(fun e_=>(Kd.R_ne HO_459001.out BK408.out (by decide)) e_) e_) (fun e_=>Or.elim e_ (fun e_=>(fun e_=>(Kd.R_ne HO_459002.out BK408.out (by decide)) e_) e_) (fun e_=>(fun e_=>(Kd.R_ne HO_459004.out BK408.out (by decide)) e_) e_))))),ak (blk_kept (rk BK444.out) hkp (fun hs_=>Or.elim hs_ (fun e_=>(fun e_=>(Kd.R_ne HO_459000.out BK444.out (by decide)) e_) e_) (fun e_=>Or.elim e_ (fun e_=>(fun e_=>(Kd.R_ne HO_459001.out BK444.out (by decide)) e_) e_) (fun e_=>Or.elim e_ (fun e_=>(fun e_=>(Kd.R_ne HO_459002.out BK444.out (by decide)) e_) e_) (fun e_=>(fun e_=>(Kd.R_ne HO_459004.out BK444.out (by decide)) e_) e_))))),ak (blk_kept (rk BK458.out) hkp (fun hs_=>Or.elim hs_ (fun e_=>(fun e_=>(Kd.R_ne HO_459000.out BK458.out (by decide)) e_) e_) (fun e_=>Or.elim e_ (fun e_=>(fun e_=>(Kd.R_ne HO_459001.out BK458.out (by decide)) e_) e_) (fun e_=>Or.elim e_ (fun e_=>(fun e_=>(Kd.R_ne HO_459002.out BK458.out (by decide)) e_) e_) (fun e_=>(fun e_=>(Kd.R_ne HO_459004.out BK458.out (by decide)) e_) e_))))),ak (blk_kept (rk BK480.out) hkp (fun hs_=>Or.elim hs_ (fun e_=>(fun e_=>(Kd.R_ne HO_459000.out BK480.out (by decide)) e_) e_) (fun e_=>Or.elim e_ (fun e_=>(fun e_=>(Kd.R_ne HO_459001.out BK480.out (by decide)) e_) e_) (fun e_=>Or.elim e_ (fun e_=>(fun e_=>(Kd.R_ne HO_459002.out BK480.out (by decide)) e_) e_) (fun e_=>(fun e_=>(Kd.R_ne HO_459004.out BK480.out (by decide)) e_) e_))))),ak (Kd.R_mono (ok':=fun k_=>some k_ ≠ (.slice Ao32 t430.length co32 : Value).ownBlock∧some k_ ≠ (.slice Ao45 t445.length co45 : Value).ownBlock∧some k_ ≠ (.slice Ao59 t466.length co59 : Value).ownBlock) (Kd.R_keptB ((Kd.R_apart' (Kd.R_apart' (Kd.R_apart' HO484.out (Kd.R_typed HO_459001.out) (by decide)) (Kd.R_typed HO_459002.out) (by decide)) (Kd.R_typed HO_459004.out) (by decide))) hkp (fun k_ hk_ hs_=>Or.elim hs_ (fun e_=>(hk_.1.1.1.1.2) e_) (fun e_=>Or.elim e_ (fun e_=>(hk_.1.1.2) e_) (fun e_=>Or.elim e_ (fun e_=>(hk_.1.2) e_) (fun e_=>(hk_.2) e_))))) (fun k_ hk_=>⟨hk_.1.1.1.1.1.1.2,hk_.1.1.1.1.1.2,hk_.1.1.1.1.2⟩)),ak (Kd.R_mono (ok':=fun k_=>some k_ ≠ (.slice Ao34 t433.length co34 : Value).ownBlock∧some k_ ≠ (.slice Ao39 t440.length co39 : Value).ownBlock∧some k_ ≠ (.slice Ao50 t448.length co50 : Value).ownBlock∧some k_ ≠ (.slice Ao52 t455.length co52 : Value).ownBlock∧some k_ ≠ (.slice Ao61 t469.length co61 : Value).ownBlock∧some k_ ≠ (.slice Ao66 t476.length co66 : Value).ownBlock∧some k_ ≠ (.slice Ao101 t492.length co101 : Value).ownBlock) (Kd.R_keptB ((Kd.R_apart' (Kd.R_apart' HO487.out (Kd.R_typed HO_459000.out) (by decide)) (Kd.R_typed HO_459002.out) (by decide))) hkp (fun k_ hk_ hs_=>Or.elim hs_ (fun e_=>(hk_.1.2) e_) (fun e_=>Or.elim e_ (fun e_=>(hk_.1.1.1.1.1.2) e_) (fun e_=>Or.elim e_ (fun e_=>(hk_.2) e_) (fun e_=>(hk_.1.1.1.1.2) e_))))) (fun k_ hk_=>⟨hk_.1.1.1.1.1.1.1.1.2,hk_.1.1.1.1.1.1.1.2,hk_.1.1.1.1.1.1.2,hk_.1.1.1.1.1.2,hk_.1.1.1.1.2,hk_.1.1.1.2,hk_.1.1.1.1.1.1.1.1.1⟩)),ak (Kd.R_mono (ok':=fun k_=>some k_ ≠ (.slice Ao36 t436.length co36 : Value).ownBlock∧some k_ ≠ (.slice Ao51 t451.length co51 : Value).ownBlock∧some k_ ≠ (.slice Ao63 t472.length co63 : Value).ownBlock) (Kd.R_keptB ((Kd.R_apart' (Kd.R_apart' (Kd.R_apart' HO490.out (Kd.R_typed HO_459000.out) (by decide)) (Kd.R_typed HO_459001.out) (by decide)) (Kd.R_typed HO_459004.out) (by decide))) hkp (fun k_ hk_ hs_=>Or.elim hs_ (fun e_=>(hk_.1.1.2) e_) (fun e_=>Or.elim e_ (fun e_=>(hk_.1.2) e_) (fun e_=>Or.elim e_ (fun e_=>(hk_.1.1.1.1.2) e_) (fun e_=>(hk_.2) e_))))) (fun k_ hk_=>⟨hk_.1.1.1.1.1.1.2,hk_.1.1.1.1.1.2,hk_.1.1.1.1.2⟩)),ak (Kd.R_mono (ok':=fun k_=>some k_ ≠ (.slice Ao34 t433.length co34 : Value).ownBlock∧some k_ ≠ (.slice Ao39 t440.length co39 : Value).ownBlock∧some k_ ≠ (.slice Ao50 t448.length co50 : Value).ownBlock∧some k_ ≠ (.slice Ao52 t455.length co52 : Value).ownBlock∧some k_ ≠ (.slice Ao61 t469.length co61 : Value).ownBlock∧some k_ ≠ (.slice Ao66 t476.length co66 : Value).ownBlock∧some k_ ≠ (.slice Ao99 t485.length co99 : Value).ownBlock) (Kd.R_keptB ((Kd.R_apart' (Kd.R_apart' HO494.out (Kd.R_typed HO_459000.out) (by decide)) (Kd.R_typed HO_459002.out) (by decide))) hkp (fun k_ hk_ hs_=>Or.elim hs_ (fun e_=>(hk_.1.2) e_) (fun e_=>Or.elim e_ (fun e_=>(hk_.1.1.1.1.1.2) e_) (fun e_=>Or.elim e_ (fun e_=>(hk_.2) e_) (fun e_=>(hk_.1.1.1.1.2) e_))))) (fun k_ hk_=>⟨hk_.1.1.1.1.1.1.1.1.2,hk_.1.1.1.1.1.1.1.2,hk_.1.1.1.1.1.1.2,hk_.1.1.1.1.1.2,hk_.1.1.1.1.2,hk_.1.1.1.2,hk_.1.1.1.1.1.1.1.1.1⟩)),ak (hb)⟩;clear HO_445000 HO_445001 HO_445002 HO_445004 HO_459000 HO_459001 HO_459002 HO_459004 HO_481000 HO_481001 HO_481002 HO_481004 BK407 BK408 BK444 BK458 BK480 HO484 HO487 HO490 HO494 HB;obtain ⟨HO_445000,HO_445001,HO_445002,HO_445004,HO_459000,HO_459001,HO_459002,HO_459004,HO_481000,HO_481001,HO_481002,HO_481004,BK407,BK408,BK444,BK458,BK480,HO484,HO487,HO490,HO494,HB⟩:=n_;(try clear hb);(try clear hkp);(try clear hy0);(try clear hy1);(try clear hy2);(try clear hy3)))
   (try simp only [Act.put,List.setIfInBounds_toArray,List.set_cons_zero,List.set_cons_succ])
   go_cut [67] (fun v67 wc=>∃ (kq : Nat) (x67_94 : Bool),v67 = .bool x67_94∧Aside0 (laws_FnExactKept.j1 kq t443 x67_94 l0_0 l0_1 l0_2 a0_3 l0_4 a1_0 a1_1 a1_2 a1_3 a1_4 a1_5 a1_6 t430 t433 t436 t439 t440 t466 t469 t472 t475 t476 = some true)∧Aside0 (kq ≤ kj15)∧Aside0 (Kd.R k134 134 wc w.heap.size (fun k_=>some k_ ≠ ((.slice Ao45 t445.length co45) : Value).ownBlock∧some k_ ≠ ((.slice Ao59 t466.length co59) : Value).ownBlock) (.slice Ao32 t430.length co32) t430)∧Aside0 (Kd.R (Kd.int .i64) 3 wc w.heap.size (fun k_=>some k_ ≠ ((.slice Ao39 t440.length co39) : Value).ownBlock∧some k_ ≠ ((.slice Ao50 t448.length co50) : Value).ownBlock∧some k_ ≠ ((.slice Ao52 t455.length co52) : Value).ownBlock∧some k_ ≠ ((.slice Ao61 t469.length co61) : Value).ownBlock∧some k_ ≠ ((.slice Ao66 t476.length co66) : Value).ownBlock) (.slice Ao34 t433.length co34) t433)∧Aside0 (Kd.R k127 127 wc w.heap.size (fun k_=>some k_ ≠ ((.slice Ao51 t451.length co51) : Value).ownBlock∧some k_ ≠ ((.slice Ao63 t472.length co63) : Value).ownBlock) (.slice Ao36 t436.length co36) t436)∧Aside0 (Kd.R (Kd.int .i64) 3 wc w.heap.size (fun k_=>some k_ ≠ ((.slice Ao34 t433.length co34) : Value).ownBlock∧some k_ ≠ ((.slice Ao50 t448.length co50) : Value).ownBlock∧some k_ ≠ ((.slice Ao52 t455.length co52) : Value).ownBlock∧some k_ ≠ ((.slice Ao61 t469.length co61) : Value).ownBlock∧some k_ ≠ ((.slice Ao66 t476.length co66) : Value).ownBlock) (.slice Ao39 t440.length co39) t440)∧Aside0 (Kd.R k134 134 wc w.heap.size (fun k_=>some k_ ≠ ((.slice Ao32 t430.length co32) : Value).ownBlock∧some k_ ≠ ((.slice Ao59 t466.length co59) : Value).ownBlock) (.slice Ao45 t445.length co45) t497)∧Aside0 (Kd.R (Kd.int .i64) 3 wc w.heap.size (fun k_=>some k_ ≠ ((.slice Ao34 t433.length co34) : Value).ownBlock∧some k_ ≠ ((.slice Ao39 t440.length co39) : Value).ownBlock∧some k_ ≠ ((.slice Ao52 t455.length co52) : Value).ownBlock∧some k_ ≠ ((.slice Ao61 t469.length co61) : Value).ownBlock∧some k_ ≠ ((.slice Ao66 t476.length co66) : Value).ownBlock) (.slice Ao50 t448.length co50) t498)∧Aside0 (Kd.R k127 127 wc w.heap.size (fun k_=>some k_ ≠ ((.slice Ao36 t436.length co36) : Value).ownBlock∧some k_ ≠ ((.slice Ao63 t472.length co63) : Value).ownBlock) (.slice Ao51 t451.length co51) t499)∧Aside0 (Kd.R (Kd.int .i64) 3 wc w.heap.size (fun k_=>some k_ ≠ ((.slice Ao34 t433.length co34) : Value).ownBlock∧some k_ ≠ ((.slice Ao39 t440.length co39) : Value).ownBlock∧some k_ ≠ ((.slice Ao50 t448.length co50) : Value).ownBlock∧some k_ ≠ ((.slice Ao61 t469.length co61) : Value).ownBlock∧some k_ ≠ ((.slice Ao66 t476.length co66) : Value).ownBlock) (.slice Ao52 t455.length co52) t500)∧Aside0 (Kd.R k134 134 wc w.heap.size (fun k_=>some k_ ≠ ((.slice Ao32 t430.length co32) : Value).ownBlock∧some k_ ≠ ((.slice Ao45 t445.length co45) : Value).ownBlock) (.slice Ao59 t466.length co59) t466)∧Aside0 (Kd.R (Kd.int .i64) 3 wc w.heap.size (fun k_=>some k_ ≠ ((.slice Ao34 t433.length co34) : Value).ownBlock∧some k_ ≠ ((.slice Ao39 t440.length co39) : Value).ownBlock∧some k_ ≠ ((.slice Ao50 t448.length co50) : Value).ownBlock∧some k_ ≠ ((.slice Ao52 t455.length co52) : Value).ownBlock∧some k_ ≠ ((.slice Ao66 t476.length co66) : Value).ownBlock) (.slice Ao61 t469.length co61) t469)∧Aside0 (Kd.R k127 127 wc w.heap.size (fun k_=>some k_ ≠ ((.slice Ao36 t436.length co36) : Value).ownBlock∧some k_ ≠ ((.slice Ao51 t451.length co51) : Value).ownBlock) (.slice Ao63 t472.length co63) t472)∧Aside0 (Kd.R (Kd.int .i64) 3 wc w.heap.size (fun k_=>some k_ ≠ ((.slice Ao34 t433.length co34) : Value).ownBlock∧some k_ ≠ ((.slice Ao39 t440.length co39) : Value).ownBlock∧some k_ ≠ ((.slice Ao50 t448.length co50) : Value).ownBlock∧some k_ ≠ ((.slice Ao52 t455.length co52) : Value).ownBlock∧some k_ ≠ ((.slice Ao61 t469.length co61) : Value).ownBlock) (.slice Ao66 t476.length co66) t476)∧Aside0 (wc.heap[gb407]? = some (.cells #[(.slice A0_0 l0_0.length c0_0),(.slice A0_1 l0_1.length c0_1),(.slice A0_2 l0_2.length c0_2),.int .i64 a0_3,(.slice A0_4 l0_4.length c0_4)] 45 (0,0)))∧Aside0 (wc.heap[gb408]? = some (.cells #[.int .i64 a1_0,.int .i64 a1_1,.int .i64 a1_2,.int .i64 a1_3,.int .i64 a1_4,.int .i64 a1_5,.int .i64 a1_6] 107 (0,0)))∧Aside0 (wc.heap[gb444]? = some (.cells #[(.slice Ao32 t430.length co32),(.slice Ao34 t433.length co34),(.slice Ao36 t436.length co36),.int .i64 t439,(.slice Ao39 t440.length co39)] 51 (0,0)))∧Aside0 (wc.heap[gb458]? = some (.cells #[(.slice Ao45 t445.length co45),(.slice Ao50 t448.length co50),(.slice Ao51 t451.length co51),.int .i64 t454,(.slice Ao52 t455.length co52)] 51 (0,0)))∧Aside0 (wc.heap[gb480]? = some (.cells #[(.slice Ao59 t466.length co59),(.slice Ao61 t469.length co61),(.slice Ao63 t472.length co63),.int .i64 t475,(.slice Ao66 t476.length co66)] 51 (0,0)))∧Aside0 (Below w.heap.size w wc))
   case first =>
    have H:=HC95.out
    clear HC95
    by_cases c109 : t496 < 0
    ·rw [if_pos c109] at H
     exact absurd H (by cases kj15 <;> simp [laws_FnExactKept.j1])
    rw [if_neg c109] at H
    have c109b0 : decide (t496 < 0) = false:=decide_eq_false c109
    clear c109
    (first | rw [c109b0] | (simp only [i64_w,i32_w];rw [c109b0]) | skip)
    replace H:=Option.bind_eq_some_iff.mp H
    obtain ⟨t501,A1100,H⟩:=H
    try dsimp only at H
    have A110:=ak A1100
    clear A1100
    by_cases c111 : t501 = true
    rotate_left
    ·replace c111:=Bool.eq_false_iff.mpr c111
     subst c111
     have H1 : (laws_FnExactKept.j1 kj15 t443 true l0_0 l0_1 l0_2 a0_3 l0_4 a1_0 a1_1 a1_2 a1_3 a1_4 a1_5 a1_6 t430 t433 t436 t439 t440 t466 t469 t472 t475 t476) = some true:=by rw [if_neg (show ¬ (false = true) by decide)] at H;exact H
     exact absurd H1 (by cases kj15 <;> simp [laws_FnExactKept.j1])
    subst c111
    have H1 : (laws_FnExactKept.j1 kj15 t443 (t479 != t443) l0_0 l0_1 l0_2 a0_3 l0_4 a1_0 a1_1 a1_2 a1_3 a1_4 a1_5 a1_6 t430 t433 t436 t439 t440 t466 t469 t472 t475 t476) = some true:=by rw [if_pos rfl] at H;exact H
    clear H
    have H:=H1
    clear H1
    have H':=ak H
    clear H
    have hnb112:=NB480_407.out
    have hnc112:=NB407_480.out
    have hnb113:=NB480_408.out
    have hnc113:=NB408_480.out
    have hnb114:=NB480_444.out
    have hnc114:=NB444_480.out
    have hnb115:=NB480_458.out
    have hnc115:=NB458_480.out
    have hz116:=bc5 BK480
    have hnb117:=NB444_407.out
    have hnc117:=NB407_444.out
    have hnb118:=NB444_408.out
    have hnc118:=NB408_444.out
    have hnb119:=NB444_458.out
    have hnc119:=NB458_444.out
    have hz120:=bc5 BK444
    go_wp2_with (first | (go_at_call 27;(with_reducible refine (laws_eqKeeper.calls kj15 _ _ t466 _ _ t469 _ _ t472 t475 _ _ t476 _ _ t430 _ _ t433 _ _ t436 t439 _ _ t440 true _ ?side1 ?side2 ?side3 ?side4 ?side5 ?side6 ?side7 ?side8 ?side9 ?side10 ?side11 ?side12 ?side13 ?side14 ?side15 ?side16 A110.out).mono ?_);(case side1=>exact rc (Kd.R_reads' HO_481000.out).2.2);(case side2=>exact (Kd.R_reads' HO_481000.out).2.1);(case side3=>exact rc (Kd.R_reads' HO_481001.out).2.2);(case side4=>exact (Kd.R_reads' HO_481001.out).2.1);(case side5=>exact rc (Kd.R_reads' HO_481002.out).2.2);(case side6=>exact (Kd.R_reads' HO_481002.out).2.1);(case side7=>exact rc (Kd.R_reads' HO_481004.out).2.2);(case side8=>exact (Kd.R_reads' HO_481004.out).2.1);(case side9=>exact rc (Kd.R_reads' HO_445000.out).2.2);(case side10=>exact (Kd.R_reads' HO_445000.out).2.1);(case side11=>exact rc (Kd.R_reads' HO_445001.out).2.2);(case side12=>exact (Kd.R_reads' HO_445001.out).2.1);(case side13=>exact rc (Kd.R_reads' HO_445002.out).2.2);(case side14=>exact (Kd.R_reads' HO_445002.out).2.1);(case side15=>exact rc (Kd.R_reads' HO_445004.out).2.2);(case side16=>exact (Kd.R_reads' HO_445004.out).2.1);rintro e w121 ⟨rfl,hb⟩;have n_ : _∧_∧_∧_∧_∧_∧_∧_∧_∧_∧_∧_∧_∧_∧_∧_∧_∧_∧_∧_∧_∧_:=⟨ka HO_445000 hb,ka HO_445001 hb,ka HO_445002 hb,ka HO_445004 hb,ka HO_459000 hb,ka HO_459001 hb,ka HO_459002 hb,ka HO_459004 hb,ka HO_481000 hb,ka HO_481001 hb,ka HO_481002 hb,ka HO_481004 hb,ka HO484 hb,ka HO487 hb,ka HO490 hb,ka HO494 hb,kb BK407 hb,kb BK408 hb,kb BK444 hb,kb BK458 hb,kb BK480 hb,kh HB hb⟩;clear HO_445000 HO_445001 HO_445002 HO_445004 HO_459000 HO_459001 HO_459002 HO_459004 HO_481000 HO_481001 HO_481002 HO_481004 HO484 HO487 HO490 HO494 BK407 BK408 BK444 BK458 BK480 HB;obtain ⟨HO_445000,HO_445001,HO_445002,HO_445004,HO_459000,HO_459001,HO_459002,HO_459004,HO_481000,HO_481001,HO_481002,HO_481004,HO484,HO487,HO490,HO494,BK407,BK408,BK444,BK458,BK480,HB⟩:=n_;(try clear hb);(try clear hb2);(try clear hk);(try clear hi)))
    go_meet
    case rel=>exact ⟨_,((t479 != t443)),(by first | rfl | (simp;done) | (simp [*];done)),H',⟨by have:=HJ15.out;first | omega | exact Nat.le_refl _⟩,⟨rm HO_445000 (fun _ hk=>⟨hk.1,hk.2.1⟩)⟩,⟨rm HO_445001 (fun _ hk=>⟨hk.1,⟨hk.2.1,⟨hk.2.2.1,⟨hk.2.2.2.1,hk.2.2.2.2.1⟩⟩⟩⟩)⟩,⟨rm HO_445002 (fun _ hk=>⟨hk.1,hk.2.1⟩)⟩,⟨rm HO_445004 (fun _ hk=>⟨hk.1,⟨hk.2.1,⟨hk.2.2.1,⟨hk.2.2.2.1,hk.2.2.2.2.1⟩⟩⟩⟩)⟩,⟨rm HO_459000 (fun _ hk=>⟨hk.1.1,hk.1.2⟩)⟩,⟨rm HO_459001 (fun _ hk=>⟨hk.1.1.1,⟨hk.1.1.2.1,⟨hk.1.1.2.2.1,⟨hk.1.1.2.2.2.1,hk.1.1.2.2.2.2⟩⟩⟩⟩)⟩,⟨rm HO_459002 (fun _ hk=>⟨hk.1.1,hk.1.2⟩)⟩,⟨rm HO_459004 (fun _ hk=>⟨hk.1.1.1,⟨hk.1.1.2.1,⟨hk.1.1.2.2.1,⟨hk.1.1.2.2.2.1,hk.1.1.2.2.2.2⟩⟩⟩⟩)⟩,⟨rm HO_481000 (fun _ hk=>⟨hk.1,hk.2.1⟩)⟩,⟨rm HO_481001 (fun _ hk=>⟨hk.1,⟨hk.2.1,⟨hk.2.2.1,⟨hk.2.2.2.1,hk.2.2.2.2.1⟩⟩⟩⟩)⟩,⟨rm HO_481002 (fun _ hk=>⟨hk.1,hk.2.1⟩)⟩,⟨rm HO_481004 (fun _ hk=>⟨hk.1,⟨hk.2.1,⟨hk.2.2.1,⟨hk.2.2.2.1,hk.2.2.2.2.1⟩⟩⟩⟩)⟩,⟨rk BK407.out⟩,⟨rk BK408.out⟩,⟨rk BK444.out⟩,⟨rk BK458.out⟩,⟨rk BK480.out⟩,⟨rbx HB⟩⟩
   case rest =>
    clear HC95
    try clear c1
    try clear c2
    try clear p2
    try clear c6
    try clear c7
    try clear c8
    try clear c9
    try clear c10
    try clear c11
    try clear c12
    try clear c25
    try clear c27
    try clear c29
    try clear c69
    try clear c70
    try clear c71
    try clear c72
    try clear c73
    try clear c75
    try clear c76
    try clear c77
    try clear c80
    try clear c81
    try clear c82
    try clear c83
    try clear c84
    try clear c85
    try clear c86
    try clear c87
    try clear c90
    try clear c93
    try clear c103
    try clear c104
    try clear c105
    try clear c106
    try clear c109
    try clear c109b0
    try clear c111
    try clear c112
    try clear c113
    try clear c114
    try clear c115
    try clear c117
    try clear c118
    try clear c119
    try clear c122
    try clear c123
    try clear c124
    try clear c125
    try clear c127
    try clear c128
    try clear c129
    try clear hz107
    try clear hz116
    try clear hz120
    try clear hcz126_0
    try clear hcz126_1
    try clear hcz126_2
    try clear hcz126_3
    try clear hcz126_4
    try clear hcz130_0
    try clear hcz130_1
    try clear hcz130_2
    try clear hcz130_3
    try clear hcz130_4
    try clear hz74
    try clear hz78
    try clear hcz84_0
    try clear hcz84_1
    try clear hcz84_2
    try clear hcz84_3
    try clear hcz84_4
    try clear hcz88_0
    try clear hcz88_1
    try clear hcz88_2
    try clear hcz88_3
    try clear hcz88_4
    try clear hfz126_0
    try clear hfz126_1
    try clear hfz126_2
    try clear hfz126_3
    try clear hfz126_4
    try clear hfz130_0
    try clear hfz130_1
    try clear hfz130_2
    try clear hfz130_3
    try clear hfz130_4
    try clear hfz84_0
    try clear hfz84_1
    try clear hfz84_2
    try clear hfz84_3
    try clear hfz84_4
    try clear hfz88_0
    try clear hfz88_1
    try clear hfz88_2
    try clear hfz88_3
    try clear hfz88_4
    try clear p2
    obtain ⟨kq,x67_94,rfl,HA,HJ94,HO_445000,HO_445001,HO_445002,HO_445004,HO_459000,HO_459001,HO_459002,HO_459004,HO_481000,HO_481001,HO_481002,HO_481004,BK407,BK408,BK444,BK458,BK480,HB⟩:=hcut
    have hl459000_94:=(Kd.R_reads' HO_459000.out).1
    rw [hl459000_94] at HO_459000
    (try simp only [hl459000_94])
    (try simp only [hl459000_94] at BK407)
    (try simp only [hl459000_94] at BK408)
    (try simp only [hl459000_94] at BK444)
    (try simp only [hl459000_94] at BK458)
    (try simp only [hl459000_94] at BK480)
    (try simp only [hl459000_94] at HO_445000)
    (try simp only [hl459000_94] at HO_445001)
    (try simp only [hl459000_94] at HO_445002)
    (try simp only [hl459000_94] at HO_445004)
    (try simp only [hl459000_94] at HO_459001)
    (try simp only [hl459000_94] at HO_459002)
    (try simp only [hl459000_94] at HO_459004)
    (try simp only [hl459000_94] at HO_481000)
    (try simp only [hl459000_94] at HO_481001)
    (try simp only [hl459000_94] at HO_481002)
    (try simp only [hl459000_94] at HO_481004)
    have hl459001_94:=(Kd.R_reads' HO_459001.out).1
    rw [hl459001_94] at HO_459001
    (try simp only [hl459001_94])
    (try simp only [hl459001_94] at BK407)
    (try simp only [hl459001_94] at BK408)
    (try simp only [hl459001_94] at BK444)
    (try simp only [hl459001_94] at BK458)
    (try simp only [hl459001_94] at BK480)
    (try simp only [hl459001_94] at HO_445000)
    (try simp only [hl459001_94] at HO_445001)
    (try simp only [hl459001_94] at HO_445002)
    (try simp only [hl459001_94] at HO_445004)
    (try simp only [hl459001_94] at HO_459000)
    (try simp only [hl459001_94] at HO_459002)
    (try simp only [hl459001_94] at HO_459004)
    (try simp only [hl459001_94] at HO_481000)
    (try simp only [hl459001_94] at HO_481001)
    (try simp only [hl459001_94] at HO_481002)
    (try simp only [hl459001_94] at HO_481004)
    have hl459002_94:=(Kd.R_reads' HO_459002.out).1
    rw [hl459002_94] at HO_459002
    (try simp only [hl459002_94])
    (try simp only [hl459002_94] at BK407)
    (try simp only [hl459002_94] at BK408)
    (try simp only [hl459002_94] at BK444)
    (try simp only [hl459002_94] at BK458)
    (try simp only [hl459002_94] at BK480)
    (try simp only [hl459002_94] at HO_445000)
    (try simp only [hl459002_94] at HO_445001)
    (try simp only [hl459002_94] at HO_445002)
    (try simp only [hl459002_94] at HO_445004)
    (try simp only [hl459002_94] at HO_459000)
    (try simp only [hl459002_94] at HO_459001)
    (try simp only [hl459002_94] at HO_459004)
    (try simp only [hl459002_94] at HO_481000)
    (try simp only [hl459002_94] at HO_481001)
    (try simp only [hl459002_94] at HO_481002)
    (try simp only [hl459002_94] at HO_481004)
    have hl459004_94:=(Kd.R_reads' HO_459004.out).1
    rw [hl459004_94] at HO_459004
    (try simp only [hl459004_94])
    (try simp only [hl459004_94] at BK407)
    (try simp only [hl459004_94] at BK408)
    (try simp only [hl459004_94] at BK444)
    (try simp only [hl459004_94] at BK458)
    (try simp only [hl459004_94] at BK480)
    (try simp only [hl459004_94] at HO_445000)
    (try simp only [hl459004_94] at HO_445001)
    (try simp only [hl459004_94] at HO_445002)
    (try simp only [hl459004_94] at HO_445004)
    (try simp only [hl459004_94] at HO_459000)
    (try simp only [hl459004_94] at HO_459001)
    (try simp only [hl459004_94] at HO_459002)
    (try simp only [hl459004_94] at HO_481000)
    (try simp only [hl459004_94] at HO_481001)
    (try simp only [hl459004_94] at HO_481002)
    (try simp only [hl459004_94] at HO_481004)
    cases kq with
    | zero=>exact absurd HA.out (by simp [laws_FnExactKept.j1])
    | succ kj94 =>
     have H:=HA.out
     clear HA
     simp only [laws_FnExactKept.j1] at H
     by_cases c132 : x67_94 = true
     ·subst c132
      have H1 : (some false) = some true:=by rw [if_pos rfl] at H;exact H
      exact absurd H1 (by simp)
     replace c132:=Bool.eq_false_iff.mpr c132
     subst c132
     rw [if_neg (show ¬ (false = true) by decide)] at H
     replace H:=Option.bind_eq_some_iff.mp H
     obtain ⟨⟨t502,t503,t504,t505,t506⟩,A1330,H⟩:=H
     try dsimp only at H
     have A133:=ak A1330
     clear A1330
     replace H:=Option.bind_eq_some_iff.mp H
     obtain ⟨t507,A1340,H⟩:=H
     try dsimp only at H
     have A134:=ak A1340
     clear A1340
     by_cases c135 : t507 < 0
     ·rw [if_pos c135] at H
      exact absurd H (by simp)
     rw [if_neg c135] at H
     have c135b0 : decide (t507 < 0) = false:=decide_eq_false c135
     clear c135
     by_cases c144 : t507 = t502
     rotate_left
     ·rw [if_neg c144] at H
      exact absurd H (by simp)
     rw [if_pos c144] at H
     have c144b0 : (t507 == t502) = true:=beq_iff_eq.mpr c144
     have c144b1 : (t507 != t502) = false:=bne_eq_false_iff_eq.mpr c144
     clear c144
     replace H:=Option.bind_eq_some_iff.mp H
     obtain ⟨⟨t508,t511,t514,t517,t518⟩,A1450,H⟩:=H
     try dsimp only at H
     have A145:=ak A1450
     clear A1450
     replace H:=Option.bind_eq_some_iff.mp H
     obtain ⟨⟨t521,t522,t523,t524,t525,t526,t527⟩,A1460,H⟩:=H
     try dsimp only at H
     have A146:=ak A1460
     clear A1460
     replace H:=Option.bind_eq_some_iff.mp H
     obtain ⟨⟨t528,t531,t534,t537,t538,t541⟩,A1470,H⟩:=H
     try dsimp only at H
     have A147:=ak A1470
     clear A1470
     have HC148:=ak H
     clear H
     have hnb149:=NB480_407.out
     have hnc149:=NB407_480.out
     have hnb150:=NB480_408.out
     have hnc150:=NB408_480.out
     have hnb151:=NB480_444.out
     have hnc151:=NB444_480.out
     have hnb152:=NB480_458.out
     have hnc152:=NB458_480.out
     have hz153:=bc5 BK480
     try go_wp2_with (first | ((with_reducible refine gc (f:=84) rfl ?_);refine gl (some 70) Try.func84 #[.agg #[.slice Ao59 t466.length co59,.slice Ao61 t469.length co61,.slice Ao63 t472.length co63,.int .i64 t475,.slice Ao66 t476.length co66],.int .i64 1] ?_;(with_reducible refine (laws_markKeeper.calls kj94 (fun k_=>some k_ = (.slice Ao59 t466.length co59 : Value).ownBlock) (.slice Ao59 t466.length co59) t466 (fun k_=>some k_ = (.slice Ao61 t469.length co61 : Value).ownBlock) (.slice Ao61 t469.length co61) t469 (fun k_=>some k_ = (.slice Ao63 t472.length co63 : Value).ownBlock) (.slice Ao63 t472.length co63) t472 t475 (fun k_=>some k_ = (.slice Ao66 t476.length co66 : Value).ownBlock) (.slice Ao66 t476.length co66) t476 1 t502 t503 t504 t505 t506 w _ ?side1 ?side2 ?side3 ?side4 ?side5 ?side6 ?side7 A133.out).mono ?_);(case side1=>repeat (first | (with_reducible first | exact HB.out | apply below_alloc | apply pw_below_drewN | apply below_drew1 | refine below_set ?_ GE407.out | refine below_set ?_ GE408.out | refine below_set ?_ GE444.out | refine below_set ?_ GE458.out | refine below_set ?_ GE480.out) | exact HB.out));(case side2=>exact Kd.R_tight rfl HO_481000.out);(case side3=>exact Kd.R_tight rfl HO_481001.out);(case side4=>exact fun k_ e_=>(HO_481001.out.1 k_ e_.symm).2.2.2.2);(case side5=>exact Kd.R_tight rfl HO_481002.out);(case side6=>exact Kd.R_tight rfl HO_481004.out);(case side7=>exact fun k_ e_=>(HO_481004.out.1 k_ e_.symm).2.2.2.2);rintro e w154 ⟨rfl,hy0,hy1,hy2,hy3,hb,hkp⟩;refine ⟨_,rfl,?_⟩;have n_ : _∧_∧_∧_∧_∧_∧_∧_∧_∧_∧_∧_∧_∧_∧_∧_∧_∧_:=⟨ak (Kd.R_mono (ok':=fun k_=>some k_ ≠ (.slice Ao45 t497.length co45 : Value).ownBlock∧some k_ ≠ (.slice Ao59 t466.length co59 : Value).ownBlock) (Kd.R_keptB ((Kd.R_apart' (Kd.R_apart' (Kd.R_apart' HO_445000.out (Kd.R_typed HO_481001.out) (by decide)) (Kd.R_typed HO_481002.out) (by decide)) (Kd.R_typed HO_481004.out) (by decide))) hkp (fun k_ hk_ hs_=>Or.elim hs_ (fun e_=>(hk_.1.1.1.2) e_) (fun e_=>Or.elim e_ (fun e_=>(hk_.1.1.2) e_) (fun e_=>Or.elim e_ (fun e_=>(hk_.1.2) e_) (fun e_=>(hk_.2) e_))))) (fun k_ hk_=>⟨hk_.1.1.1.1.1,hk_.1.1.1.1.2⟩)),ak (Kd.R_mono (ok':=fun k_=>some k_ ≠ (.slice Ao39 t440.length co39 : Value).ownBlock∧some k_ ≠ (.slice Ao50 t498.length co50 : Value).ownBlock∧some k_ ≠ (.slice Ao52 t500.length co52 : Value).ownBlock∧some k_ ≠ (.slice Ao61 t469.length co61 : Value).ownBlock∧some k_ ≠ (.slice Ao66 t476.length co66 : Value).ownBlock) (Kd.R_keptB ((Kd.R_apart' (Kd.R_apart' HO_445001.out (Kd.R_typed HO_481000.out) (by decide)) (Kd.R_typed HO_481002.out) (by decide))) hkp (fun k_ hk_ hs_=>Or.elim hs_ (fun e_=>(hk_.1.2) e_) (fun e_=>Or.elim e_ (fun e_=>(hk_.1.1.2.2.2.1) e_) (fun e_=>Or.elim e_ (fun e_=>(hk_.2) e_) (fun e_=>(hk_.1.1.2.2.2.2) e_))))) (fun k_ hk_=>⟨hk_.1.1.1.1,hk_.1.1.1.2.1,hk_.1.1.1.2.2.1,hk_.1.1.1.2.2.2.1,hk_.1.1.1.2.2.2.2⟩)),ak (Kd.R_mono (ok':=fun k_=>some k_ ≠ (.slice Ao51 t499.length co51 : Value).ownBlock∧some k_ ≠ (.slice Ao63 t472.length co63 : Value).ownBlock) (Kd.R_keptB ((Kd.R_apart' (Kd.R_apart' (Kd.R_apart' HO_445002.out (Kd.R_typed HO_481000.out) (by decide)) (Kd.R_typed HO_481001.out) (by decide)) (Kd.R_typed HO_481004.out) (by decide))) hkp (fun k_ hk_ hs_=>Or.elim hs_ (fun e_=>(hk_.1.1.2) e_) (fun e_=>Or.elim e_ (fun e_=>(hk_.1.2) e_) (fun e_=>Or.elim e_ (fun e_=>(hk_.1.1.1.2) e_) (fun e_=>(hk_.2) e_))))) (fun k_ hk_=>⟨hk_.1.1.1.1.1,hk_.1.1.1.1.2⟩)),ak (Kd.R_mono (ok':=fun k_=>some k_ ≠ (.slice Ao34 t433.length co34 : Value).ownBlock∧some k_ ≠ (.slice Ao50 t498.length co50 : Value).ownBlock∧some k_ ≠ (.slice Ao52 t500.length co52 : Value).ownBlock∧some k_ ≠ (.slice Ao61 t469.length co61 : Value).ownBlock∧some k_ ≠ (.slice Ao66 t476.length co66 : Value).ownBlock) (Kd.R_keptB ((Kd.R_apart' (Kd.R_apart' HO_445004.out (Kd.R_typed HO_481000.out) (by decide)) (Kd.R_typed HO_481002.out) (by decide))) hkp (fun k_ hk_ hs_=>Or.elim hs_ (fun e_=>(hk_.1.2) e_) (fun e_=>Or.elim e_ (fun e_=>(hk_.1.1.2.2.2.1) e_) (fun e_=>Or.elim e_ (fun e_=>(hk_.2) e_) (fun e_=>(hk_.1.1.2.2.2.2) e_))))) (fun k_ hk_=>⟨hk_.1.1.1.1,hk_.1.1.1.2.1,hk_.1.1.1.2.2.1,hk_.1.1.1.2.2.2.1,hk_.1.1.1.2.2.2.2⟩)),ak (Kd.R_mono (ok':=fun k_=>some k_ ≠ (.slice Ao32 t430.length co32 : Value).ownBlock∧some k_ ≠ (.slice Ao59 t466.length co59 : Value).ownBlock) (Kd.R_keptB ((Kd.R_apart' (Kd.R_apart' (Kd.R_apart' HO_459000.out (Kd.R_typed HO_481001.out) (by decide)) (Kd.R_typed HO_481002.out) (by decide)) (Kd.R_typed HO_481004.out) (by decide))) hkp (fun k_ hk_ hs_=>Or.elim hs_ (fun e_=>(hk_.1.1.1.2) e_) (fun e_=>Or.elim e_ (fun e_=>(hk_.1.1.2) e_) (fun e_=>Or.elim e_ (fun e_=>(hk_.1.2) e_) (fun e_=>(hk_.2) e_))))) (fun k_ hk_=>⟨hk_.1.1.1.1.1,hk_.1.1.1.1.2⟩)),ak (Kd.R_mono (ok':=fun k_=>some k_ ≠ (.slice Ao34 t433.length co34 : Value).ownBlock∧some k_ ≠ (.slice Ao39 t440.length co39 : Value).ownBlock∧some k_ ≠ (.slice Ao52 t500.length co52 : Value).ownBlock∧some k_ ≠ (.slice Ao61 t469.length co61 : Value).ownBlock∧some k_ ≠ (.slice Ao66 t476.length co66 : Value).ownBlock) (Kd.R_keptB ((Kd.R_apart' (Kd.R_apart' HO_459001.out (Kd.R_typed HO_481000.out) (by decide)) (Kd.R_typed HO_481002.out) (by decide))) hkp (fun k_ hk_ hs_=>Or.elim hs_ (fun e_=>(hk_.1.2) e_) (fun e_=>Or.elim e_ (fun e_=>(hk_.1.1.2.2.2.1) e_) (fun e_=>Or.elim e_ (fun e_=>(hk_.2) e_) (fun e_=>(hk_.1.1.2.2.2.2) e_))))) (fun k_ hk_=>⟨hk_.1.1.1.1,hk_.1.1.1.2.1,hk_.1.1.1.2.2.1,hk_.1.1.1.2.2.2.1,hk_.1.1.1.2.2.2.2⟩)),ak (Kd.R_mono (ok':=fun k_=>some k_ ≠ (.slice Ao36 t436.length co36 : Value).ownBlock∧some k_ ≠ (.slice Ao63 t472.length co63 : Value).ownBlock) (Kd.R_keptB ((Kd.R_apart' (Kd.R_apart' (Kd.R_apart' HO_459002.out (Kd.R_typed HO_481000.out) (by decide)) (Kd.R_typed HO_481001.out) (by decide)) (Kd.R_typed HO_481004.out) (by decide))) hkp (fun k_ hk_ hs_=>Or.elim hs_ (fun e_=>(hk_.1.1.2) e_) (fun e_=>Or.elim e_ (fun e_=>(hk_.1.2) e_) (fun e_=>Or.elim e_ (fun e_=>(hk_.1.1.1.2) e_) (fun e_=>(hk_.2) e_))))) (fun k_ hk_=>⟨hk_.1.1.1.1.1,hk_.1.1.1.1.2⟩)),ak (Kd.R_mono (ok':=fun k_=>some k_ ≠ (.slice Ao34 t433.length co34 : Value).ownBlock∧some k_ ≠ (.slice Ao39 t440.length co39 : Value).ownBlock∧some k_ ≠ (.slice Ao50 t498.length co50 : Value).ownBlock∧some k_ ≠ (.slice Ao61 t469.length co61 : Value).ownBlock∧some k_ ≠ (.slice Ao66 t476.length co66 : Value).ownBlock) (Kd.R_keptB ((Kd.R_apart' (Kd.R_apart' HO_459004.out (Kd.R_typed HO_481000.out) (by decide)) (Kd.R_typed HO_481002.out) (by decide))) hkp (fun k_ hk_ hs_=>Or.elim hs_ (fun e_=>(hk_.1.2) e_) (fun e_=>Or.elim e_ (fun e_=>(hk_.1.1.2.2.2.1) e_) (fun e_=>Or.elim e_ (fun e_=>(hk_.2) e_) (fun e_=>(hk_.1.1.2.2.2.2) e_))))) (fun k_ hk_=>⟨hk_.1.1.1.1,hk_.1.1.1.2.1,hk_.1.1.1.2.2.1,hk_.1.1.1.2.2.2.1,hk_.1.1.1.2.2.2.2⟩)),ak (Kd.R_reok rfl hy0 (fun k_ e_=>HO_481000.out.1 k_ e_)),ak (Kd.R_reok rfl hy1 (fun k_ e_=>HO_481001.out.1 k_ e_)),ak (Kd.R_reok rfl hy2 (fun k_ e_=>HO_481002.out.1 k_ e_)),ak (Kd.R_reok rfl hy3 (fun k_ e_=>HO_481004.out.1 k_ e_)),ak (blk_kept (rk BK407.out) hkp (fun hs_=>Or.elim hs_ (fun e_=>(fun e_=>(Kd.R_ne HO_481000.out BK407.out (by decide)) e_) e_) (fun e_=>Or.elim e_ (fun e_=>(fun e_=>(Kd.R_ne HO_481001.out BK407.out (by decide)) e_) e_) (fun e_=>Or.elim e_ (fun e_=>(fun e_=>(Kd.R_ne HO_481002.out BK407.out (by decide)) e_) e_) (fun e_=>(fun e_=>(Kd.R_ne HO_481004.out BK407.out (by decide)) e_) e_))))),ak (blk_kept (rk BK408.out) hkp (fun hs_=>Or.elim hs_ (fun e_=>(fun e_=>(Kd.R_ne HO_481000.out BK408.out (by decide)) e_) e_) (fun e_=>Or.elim e_ (fun e_=>(fun e_=>(Kd.R_ne HO_481001.out BK408.out (by decide)) e_) e_) (fun e_=>Or.elim e_ (fun e_=>(fun e_=>(Kd.R_ne HO_481002.out BK408.out (by decide)) e_) e_) (fun e_=>(fun e_=>(Kd.R_ne HO_481004.out BK408.out (by decide)) e_) e_))))),ak (blk_kept (rk BK444.out) hkp (fun hs_=>Or.elim hs_ (fun e_=>(fun e_=>(Kd.R_ne HO_481000.out BK444.out (by decide)) e_) e_) (fun e_=>Or.elim e_ (fun e_=>(fun e_=>(Kd.R_ne HO_481001.out BK444.out (by decide)) e_) e_) (fun e_=>Or.elim e_ (fun e_=>(fun e_=>(Kd.R_ne HO_481002.out BK444.out (by decide)) e_) e_) (fun e_=>(fun e_=>(Kd.R_ne HO_481004.out BK444.out (by decide)) e_) e_))))),ak (blk_kept (rk BK458.out) hkp (fun hs_=>Or.elim hs_ (fun e_=>(fun e_=>(Kd.R_ne HO_481000.out BK458.out (by decide)) e_) e_) (fun e_=>Or.elim e_ (fun e_=>(fun e_=>(Kd.R_ne HO_481001.out BK458.out (by decide)) e_) e_) (fun e_=>Or.elim e_ (fun e_=>(fun e_=>(Kd.R_ne HO_481002.out BK458.out (by decide)) e_) e_) (fun e_=>(fun e_=>(Kd.R_ne HO_481004.out BK458.out (by decide)) e_) e_))))),ak (blk_kept (rk BK480.out) hkp (fun hs_=>Or.elim hs_ (fun e_=>(fun e_=>(Kd.R_ne HO_481000.out BK480.out (by decide)) e_) e_) (fun e_=>Or.elim e_ (fun e_=>(fun e_=>(Kd.R_ne HO_481001.out BK480.out (by decide)) e_) e_) (fun e_=>Or.elim e_ (fun e_=>(fun e_=>(Kd.R_ne HO_481002.out BK480.out (by decide)) e_) e_) (fun e_=>(fun e_=>(Kd.R_ne HO_481004.out BK480.out (by decide)) e_) e_))))),ak (hb)⟩;clear HO_445000 HO_445001 HO_445002 HO_445004 HO_459000 HO_459001 HO_459002 HO_459004 HO_481000 HO_481001 HO_481002 HO_481004 BK407 BK408 BK444 BK458 BK480 HB;obtain ⟨HO_445000,HO_445001,HO_445002,HO_445004,HO_459000,HO_459001,HO_459002,HO_459004,HO_481000,HO_481001,HO_481002,HO_481004,BK407,BK408,BK444,BK458,BK480,HB⟩:=n_;(try clear hb);(try clear hkp);(try clear hy0);(try clear hy1);(try clear hy2);(try clear hy3);have hcz155_0 : w154.cell? ⟨gb480,0,none⟩ = some (.slice Ao59 t466.length co59):=ce BK480 0;have hcz155_1 : w154.cell? ⟨gb480,1,none⟩ = some (.slice Ao61 t469.length co61):=ce BK480 1;have hcz155_2 : w154.cell? ⟨gb480,2,none⟩ = some (.slice Ao63 t472.length co63):=ce BK480 2;have hcz155_3 : w154.cell? ⟨gb480,3,none⟩ = some (.int .i64 t475):=ce BK480 3;have hcz155_4 : w154.cell? ⟨gb480,4,none⟩ = some (.slice Ao66 t476.length co66):=ce BK480 4;have hfz155_0:=blk_frozen BK480.out 0;have hfz155_1:=blk_frozen BK480.out 1;have hfz155_2:=blk_frozen BK480.out 2;have hfz155_3:=blk_frozen BK480.out 3;have hfz155_4:=blk_frozen BK480.out 4) | ((with_reducible refine gc (f:=85) rfl ?_);refine goesL_ (some 73) rfl rfl Try.func85 (by kernel_rfl) rfl #[.agg #[.slice Ao59 t503.length co59,.slice Ao61 t504.length co61,.slice Ao63 t505.length co63,.int .i64 t475,.slice Ao66 t506.length co66],.int .i64 1] rfl (by (try simp only [List.map_toArray,List.map_cons,List.map_nil]);first | done | (rw [show t503.length = t466.length from (Kd.R_reads' HO_481000.out).1.symm,show t504.length = t469.length from (Kd.R_reads' HO_481001.out).1.symm,show t505.length = t472.length from (Kd.R_reads' HO_481002.out).1.symm,show t506.length = t476.length from (Kd.R_reads' HO_481004.out).1.symm] <;> rfl) | rfl | (simp only [List.length_drop,List.length_take];rfl)) ?_;(with_reducible refine (laws_heldKeeper.calls kj94 _ _ t503 _ _ t504 _ _ t505 t475 _ _ t506 1 t507 _ ?side1 ?side2 ?side3 ?side4 ?side5 ?side6 ?side7 ?side8 A134.out).mono ?_);(case side1=>exact rc (Kd.R_reads' HO_481000.out).2.2);(case side2=>rw [show t503.length = t466.length from (Kd.R_reads' HO_481000.out).1.symm];exact (Kd.R_reads' HO_481000.out).2.1);(case side3=>exact rc (Kd.R_reads' HO_481001.out).2.2);(case side4=>rw [show t504.length = t469.length from (Kd.R_reads' HO_481001.out).1.symm];exact (Kd.R_reads' HO_481001.out).2.1);(case side5=>exact rc (Kd.R_reads' HO_481002.out).2.2);(case side6=>rw [show t505.length = t472.length from (Kd.R_reads' HO_481002.out).1.symm];exact (Kd.R_reads' HO_481002.out).2.1);(case side7=>exact rc (Kd.R_reads' HO_481004.out).2.2);(case side8=>rw [show t506.length = t476.length from (Kd.R_reads' HO_481004.out).1.symm];exact (Kd.R_reads' HO_481004.out).2.1);rintro e w156 ⟨rfl,hb⟩;refine ⟨_,rfl,?_⟩;have n_ : _∧_∧_∧_∧_∧_∧_∧_∧_∧_∧_∧_∧_∧_∧_∧_∧_∧_:=⟨ka HO_445000 hb,ka HO_445001 hb,ka HO_445002 hb,ka HO_445004 hb,ka HO_459000 hb,ka HO_459001 hb,ka HO_459002 hb,ka HO_459004 hb,ka HO_481000 hb,ka HO_481001 hb,ka HO_481002 hb,ka HO_481004 hb,kb BK407 hb,kb BK408 hb,kb BK444 hb,kb BK458 hb,kb BK480 hb,kh HB hb⟩;clear HO_445000 HO_445001 HO_445002 HO_445004 HO_459000 HO_459001 HO_459002 HO_459004 HO_481000 HO_481001 HO_481002 HO_481004 BK407 BK408 BK444 BK458 BK480 HB;obtain ⟨HO_445000,HO_445001,HO_445002,HO_445004,HO_459000,HO_459001,HO_459002,HO_459004,HO_481000,HO_481001,HO_481002,HO_481004,BK407,BK408,BK444,BK458,BK480,HB⟩:=n_;(try clear hb);(try clear hb2);(try clear hk);(try clear hi)))
     have n_ : _∧_∧_∧_∧_∧_∧_∧_∧_∧_∧_∧_∧_∧_∧_∧_∧_∧_:=⟨ak (Kd.R_drew HO_445000.out),ak (Kd.R_drew HO_445001.out),ak (Kd.R_drew HO_445002.out),ak (Kd.R_drew HO_445004.out),ak (Kd.R_drew HO_459000.out),ak (Kd.R_drew HO_459001.out),ak (Kd.R_drew HO_459002.out),ak (Kd.R_drew HO_459004.out),ak (Kd.R_drew HO_481000.out),ak (Kd.R_drew HO_481001.out),ak (Kd.R_drew HO_481002.out),ak (Kd.R_drew HO_481004.out),ak (blk_drew BK407.out),ak (blk_drew BK408.out),ak (blk_drew BK444.out),ak (blk_drew BK458.out),ak (blk_drew BK480.out),ak (below_drew1 HB.out)⟩
     clear HO_445000 HO_445001 HO_445002 HO_445004 HO_459000 HO_459001 HO_459002 HO_459004 HO_481000 HO_481001 HO_481002 HO_481004 BK407 BK408 BK444 BK458 BK480 HB
     obtain ⟨HO_445000,HO_445001,HO_445002,HO_445004,HO_459000,HO_459001,HO_459002,HO_459004,HO_481000,HO_481001,HO_481002,HO_481004,BK407,BK408,BK444,BK458,BK480,HB⟩:=n_
     refine start_ (n:=11) (S:=fun w'=>w'.cell? ⟨gb407,0,none⟩ = some (.slice A0_0 l0_0.length c0_0)∧w'.cell? ⟨gb407,1,none⟩ = some (.slice A0_1 l0_1.length c0_1)∧w'.cell? ⟨gb407,2,none⟩ = some (.slice A0_2 l0_2.length c0_2)∧w'.cell? ⟨gb407,3,none⟩ = some (.int .i64 a0_3)∧w'.cell? ⟨gb407,4,none⟩ = some (.slice A0_4 l0_4.length c0_4)∧w'.cell? ⟨gb408,0,none⟩ = some (.int .i64 a1_0)∧w'.cell? ⟨gb408,1,none⟩ = some (.int .i64 a1_1)∧w'.cell? ⟨gb408,2,none⟩ = some (.int .i64 a1_2)∧w'.cell? ⟨gb408,3,none⟩ = some (.int .i64 a1_3)∧w'.cell? ⟨gb408,4,none⟩ = some (.int .i64 a1_4)∧w'.cell? ⟨gb408,5,none⟩ = some (.int .i64 a1_5)∧w'.cell? ⟨gb408,6,none⟩ = some (.int .i64 a1_6)) (ds:=[]) (lb 11 0) (by kernel_rfl) rfl (by kernel_rfl) ⟨ce BK407 0,ce BK407 1,ce BK407 2,ce BK407 3,ce BK407 4,ce BK408 0,ce BK408 1,ce BK408 2,ce BK408 3,ce BK408 4,ce BK408 5,ce BK408 6⟩ (fun hHeld=>?_);refine with_tabW laws_FnExactKept.tab24 laws_FnExactKept.bits24 (fun HT_ HW_=>?_)
     generalize w156.drew = w157 at HO_445000 HO_445001 HO_445002 HO_445004 HO_459000 HO_459001 HO_459002 HO_459004 HO_481000 HO_481001 HO_481002 HO_481004 BK407 BK408 BK444 BK458 BK480 HB hHeld ⊢
     refine tv 0 (some 80) 1 rfl rfl HT_ HW_ hHeld ?_
     refine tv 2 (some 82) 5 rfl rfl HT_ HW_ hHeld ?_
     refine join_ (σ:=Value × Value × Value × Value × Value × Value × Value × Value × Nat) 2 (lb 11 511) (fun s_=>[(81,.agg #[s_.1,s_.2.1,s_.2.2.1,.int .i64 t517,s_.2.2.2.1]),(83,.agg #[.int .i64 t521,.int .i64 t522,.int .i64 t523,.int .i64 t524,.int .i64 t525,.int .i64 t526,.int .i64 t527]),(84,.tuple #[.agg #[s_.2.2.2.2.1,s_.2.2.2.2.2.1,s_.2.2.2.2.2.2.1,.int .i64 t537,s_.2.2.2.2.2.2.2.1],.bool t541]),(14,.pointer (some ⟨s_.2.2.2.2.2.2.2.2,0,none⟩)),(79,.tuple #[.agg #[s_.2.2.2.2.1,s_.2.2.2.2.2.1,s_.2.2.2.2.2.2.1,.int .i64 t537,s_.2.2.2.2.2.2.2.1],.bool t541]),(85,.agg #[s_.2.2.2.2.1,s_.2.2.2.2.2.1,s_.2.2.2.2.2.2.1,.int .i64 t537,s_.2.2.2.2.2.2.2.1]),(86,.bool t541)]) (fun s_ w'=>(w'.cell? ⟨gb407,0,none⟩ = some (.slice A0_0 l0_0.length c0_0)∧w'.cell? ⟨gb407,1,none⟩ = some (.slice A0_1 l0_1.length c0_1)∧w'.cell? ⟨gb407,2,none⟩ = some (.slice A0_2 l0_2.length c0_2)∧w'.cell? ⟨gb407,3,none⟩ = some (.int .i64 a0_3)∧w'.cell? ⟨gb407,4,none⟩ = some (.slice A0_4 l0_4.length c0_4)∧w'.cell? ⟨gb408,0,none⟩ = some (.int .i64 a1_0)∧w'.cell? ⟨gb408,1,none⟩ = some (.int .i64 a1_1)∧w'.cell? ⟨gb408,2,none⟩ = some (.int .i64 a1_2)∧w'.cell? ⟨gb408,3,none⟩ = some (.int .i64 a1_3)∧w'.cell? ⟨gb408,4,none⟩ = some (.int .i64 a1_4)∧w'.cell? ⟨gb408,5,none⟩ = some (.int .i64 a1_5)∧w'.cell? ⟨gb408,6,none⟩ = some (.int .i64 a1_6))∧(Kd.R k134 134 w' w.heap.size (fun k_=>some k_ ≠ (s_.2.2.2.2.1 : Value).ownBlock∧some k_ ≠ (.slice Ao32 t430.length co32 : Value).ownBlock∧some k_ ≠ (.slice Ao45 t497.length co45 : Value).ownBlock∧some k_ ≠ (.slice Ao59 t466.length co59 : Value).ownBlock) s_.1 t508)∧(Kd.R (Kd.int .i64) 3 w' w.heap.size (fun k_=>some k_ ≠ (s_.2.2.2.1 : Value).ownBlock∧some k_ ≠ (s_.2.2.2.2.2.1 : Value).ownBlock∧some k_ ≠ (s_.2.2.2.2.2.2.2.1 : Value).ownBlock∧some k_ ≠ (.slice Ao34 t433.length co34 : Value).ownBlock∧some k_ ≠ (.slice Ao39 t440.length co39 : Value).ownBlock∧some k_ ≠ (.slice Ao50 t498.length co50 : Value).ownBlock∧some k_ ≠ (.slice Ao52 t500.length co52 : Value).ownBlock∧some k_ ≠ (.slice Ao61 t469.length co61 : Value).ownBlock∧some k_ ≠ (.slice Ao66 t476.length co66 : Value).ownBlock) s_.2.1 t511)∧(Kd.R k127 127 w' w.heap.size (fun k_=>some k_ ≠ (s_.2.2.2.2.2.2.1 : Value).ownBlock∧some k_ ≠ (.slice Ao36 t436.length co36 : Value).ownBlock∧some k_ ≠ (.slice Ao51 t499.length co51 : Value).ownBlock∧some k_ ≠ (.slice Ao63 t472.length co63 : Value).ownBlock) s_.2.2.1 t514)∧(Kd.R (Kd.int .i64) 3 w' w.heap.size (fun k_=>some k_ ≠ (s_.2.1 : Value).ownBlock∧some k_ ≠ (s_.2.2.2.2.2.1 : Value).ownBlock∧some k_ ≠ (s_.2.2.2.2.2.2.2.1 : Value).ownBlock∧some k_ ≠ (.slice Ao34 t433.length co34 : Value).ownBlock∧some k_ ≠ (.slice Ao39 t440.length co39 : Value).ownBlock∧some k_ ≠ (.slice Ao50 t498.length co50 : Value).ownBlock∧some k_ ≠ (.slice Ao52 t500.length co52 : Value).ownBlock∧some k_ ≠ (.slice Ao61 t469.length co61 : Value).ownBlock∧some k_ ≠ (.slice Ao66 t476.length co66 : Value).ownBlock) s_.2.2.2.1 t518)∧(Kd.R k134 134 w' w.heap.size (fun k_=>some k_ ≠ (s_.1 : Value).ownBlock∧some k_ ≠ (.slice Ao32 t430.length co32 : Value).ownBlock∧some k_ ≠ (.slice Ao45 t497.length co45 : Value).ownBlock∧some k_ ≠ (.slice Ao59 t466.length co59 : Value).ownBlock) s_.2.2.2.2.1 t528)∧(Kd.R (Kd.int .i64) 3 w' w.heap.size (fun k_=>some k_ ≠ (s_.2.1 : Value).ownBlock∧some k_ ≠ (s_.2.2.2.1 : Value).ownBlock∧some k_ ≠ (s_.2.2.2.2.2.2.2.1 : Value).ownBlock∧some k_ ≠ (.slice Ao34 t433.length co34 : Value).ownBlock∧some k_ ≠ (.slice Ao39 t440.length co39 : Value).ownBlock∧some k_ ≠ (.slice Ao50 t498.length co50 : Value).ownBlock∧some k_ ≠ (.slice Ao52 t500.length co52 : Value).ownBlock∧some k_ ≠ (.slice Ao61 t469.length co61 : Value).ownBlock∧some k_ ≠ (.slice Ao66 t476.length co66 : Value).ownBlock) s_.2.2.2.2.2.1 t531)∧(Kd.R k127 127 w' w.heap.size (fun k_=>some k_ ≠ (s_.2.2.1 : Value).ownBlock∧some k_ ≠ (.slice Ao36 t436.length co36 : Value).ownBlock∧some k_ ≠ (.slice Ao51 t499.length co51 : Value).ownBlock∧some k_ ≠ (.slice Ao63 t472.length co63 : Value).ownBlock) s_.2.2.2.2.2.2.1 t534)∧(Kd.R (Kd.int .i64) 3 w' w.heap.size (fun k_=>some k_ ≠ (s_.2.1 : Value).ownBlock∧some k_ ≠ (s_.2.2.2.1 : Value).ownBlock∧some k_ ≠ (s_.2.2.2.2.2.1 : Value).ownBlock∧some k_ ≠ (.slice Ao34 t433.length co34 : Value).ownBlock∧some k_ ≠ (.slice Ao39 t440.length co39 : Value).ownBlock∧some k_ ≠ (.slice Ao50 t498.length co50 : Value).ownBlock∧some k_ ≠ (.slice Ao52 t500.length co52 : Value).ownBlock∧some k_ ≠ (.slice Ao61 t469.length co61 : Value).ownBlock∧some k_ ≠ (.slice Ao66 t476.length co66 : Value).ownBlock) s_.2.2.2.2.2.2.2.1 t538)∧(Kd.R k134 134 w' w.heap.size (fun k_=>some k_ ≠ (s_.1 : Value).ownBlock∧some k_ ≠ (s_.2.2.2.2.1 : Value).ownBlock∧some k_ ≠ (.slice Ao45 t497.length co45 : Value).ownBlock∧some k_ ≠ (.slice Ao59 t466.length co59 : Value).ownBlock) (.slice Ao32 t430.length co32) t430)∧(Kd.R (Kd.int .i64) 3 w' w.heap.size (fun k_=>some k_ ≠ (s_.2.1 : Value).ownBlock∧some k_ ≠ (s_.2.2.2.1 : Value).ownBlock∧some k_ ≠ (s_.2.2.2.2.2.1 : Value).ownBlock∧some k_ ≠ (s_.2.2.2.2.2.2.2.1 : Value).ownBlock∧some k_ ≠ (.slice Ao39 t440.length co39 : Value).ownBlock∧some k_ ≠ (.slice Ao50 t498.length co50 : Value).ownBlock∧some k_ ≠ (.slice Ao52 t500.length co52 : Value).ownBlock∧some k_ ≠ (.slice Ao61 t469.length co61 : Value).ownBlock∧some k_ ≠ (.slice Ao66 t476.length co66 : Value).ownBlock) (.slice Ao34 t433.length co34) t433)∧(Kd.R k127 127 w' w.heap.size (fun k_=>some k_ ≠ (s_.2.2.1 : Value).ownBlock∧some k_ ≠ (s_.2.2.2.2.2.2.1 : Value).ownBlock∧some k_ ≠ (.slice Ao51 t499.length co51 : Value).ownBlock∧some k_ ≠ (.slice Ao63 t472.length co63 : Value).ownBlock) (.slice Ao36 t436.length co36) t436)∧(Kd.R (Kd.int .i64) 3 w' w.heap.size (fun k_=>some k_ ≠ (s_.2.1 : Value).ownBlock∧some k_ ≠ (s_.2.2.2.1 : Value).ownBlock∧some k_ ≠ (s_.2.2.2.2.2.1 : Value).ownBlock∧some k_ ≠ (s_.2.2.2.2.2.2.2.1 : Value).ownBlock∧some k_ ≠ (.slice Ao34 t433.length co34 : Value).ownBlock∧some k_ ≠ (.slice Ao50 t498.length co50 : Value).ownBlock∧some k_ ≠ (.slice Ao52 t500.length co52 : Value).ownBlock∧some k_ ≠ (.slice Ao61 t469.length co61 : Value).ownBlock∧some k_ ≠ (.slice Ao66 t476.length co66 : Value).ownBlock) (.slice Ao39 t440.length co39) t440)∧(Kd.R k134 134 w' w.heap.size (fun k_=>some k_ ≠ (s_.1 : Value).ownBlock∧some k_ ≠ (s_.2.2.2.2.1 : Value).ownBlock∧some k_ ≠ (.slice Ao32 t430.length co32 : Value).ownBlock∧some k_ ≠ (.slice Ao59 t466.length co59 : Value).ownBlock) (.slice Ao45 t497.length co45) t497)∧(Kd.R (Kd.int .i64) 3 w' w.heap.size (fun k_=>some k_ ≠ (s_.2.1 : Value).ownBlock∧some k_ ≠ (s_.2.2.2.1 : Value).ownBlock∧some k_ ≠ (s_.2.2.2.2.2.1 : Value).ownBlock∧some k_ ≠ (s_.2.2.2.2.2.2.2.1 : Value).ownBlock∧some k_ ≠ (.slice Ao34 t433.length co34 : Value).ownBlock∧some k_ ≠ (.slice Ao39 t440.length co39 : Value).ownBlock∧some k_ ≠ (.slice Ao52 t500.length co52 : Value).ownBlock∧some k_ ≠ (.slice Ao61 t469.length co61 : Value).ownBlock∧some k_ ≠ (.slice Ao66 t476.length co66 : Value).ownBlock) (.slice Ao50 t498.length co50) t498)∧(Kd.R k127 127 w' w.heap.size (fun k_=>some k_ ≠ (s_.2.2.1 : Value).ownBlock∧some k_ ≠ (s_.2.2.2.2.2.2.1 : Value).ownBlock∧some k_ ≠ (.slice Ao36 t436.length co36 : Value).ownBlock∧some k_ ≠ (.slice Ao63 t472.length co63 : Value).ownBlock) (.slice Ao51 t499.length co51) t499)∧(Kd.R (Kd.int .i64) 3 w' w.heap.size (fun k_=>some k_ ≠ (s_.2.1 : Value).ownBlock∧some k_ ≠ (s_.2.2.2.1 : Value).ownBlock∧some k_ ≠ (s_.2.2.2.2.2.1 : Value).ownBlock∧some k_ ≠ (s_.2.2.2.2.2.2.2.1 : Value).ownBlock∧some k_ ≠ (.slice Ao34 t433.length co34 : Value).ownBlock∧some k_ ≠ (.slice Ao39 t440.length co39 : Value).ownBlock∧some k_ ≠ (.slice Ao50 t498.length co50 : Value).ownBlock∧some k_ ≠ (.slice Ao61 t469.length co61 : Value).ownBlock∧some k_ ≠ (.slice Ao66 t476.length co66 : Value).ownBlock) (.slice Ao52 t500.length co52) t500)∧(Kd.R k134 134 w' w.heap.size (fun k_=>some k_ ≠ (s_.1 : Value).ownBlock∧some k_ ≠ (s_.2.2.2.2.1 : Value).ownBlock∧some k_ ≠ (.slice Ao32 t430.length co32 : Value).ownBlock∧some k_ ≠ (.slice Ao45 t497.length co45 : Value).ownBlock) (.slice Ao59 t466.length co59) t503)∧(Kd.R (Kd.int .i64) 3 w' w.heap.size (fun k_=>some k_ ≠ (s_.2.1 : Value).ownBlock∧some k_ ≠ (s_.2.2.2.1 : Value).ownBlock∧some k_ ≠ (s_.2.2.2.2.2.1 : Value).ownBlock∧some k_ ≠ (s_.2.2.2.2.2.2.2.1 : Value).ownBlock∧some k_ ≠ (.slice Ao34 t433.length co34 : Value).ownBlock∧some k_ ≠ (.slice Ao39 t440.length co39 : Value).ownBlock∧some k_ ≠ (.slice Ao50 t498.length co50 : Value).ownBlock∧some k_ ≠ (.slice Ao52 t500.length co52 : Value).ownBlock∧some k_ ≠ (.slice Ao66 t476.length co66 : Value).ownBlock) (.slice Ao61 t469.length co61) t504)∧(Kd.R k127 127 w' w.heap.size (fun k_=>some k_ ≠ (s_.2.2.1 : Value).ownBlock∧some k_ ≠ (s_.2.2.2.2.2.2.1 : Value).ownBlock∧some k_ ≠ (.slice Ao36 t436.length co36 : Value).ownBlock∧some k_ ≠ (.slice Ao51 t499.length co51 : Value).ownBlock) (.slice Ao63 t472.length co63) t505)∧(Kd.R (Kd.int .i64) 3 w' w.heap.size (fun k_=>some k_ ≠ (s_.2.1 : Value).ownBlock∧some k_ ≠ (s_.2.2.2.1 : Value).ownBlock∧some k_ ≠ (s_.2.2.2.2.2.1 : Value).ownBlock∧some k_ ≠ (s_.2.2.2.2.2.2.2.1 : Value).ownBlock∧some k_ ≠ (.slice Ao34 t433.length co34 : Value).ownBlock∧some k_ ≠ (.slice Ao39 t440.length co39 : Value).ownBlock∧some k_ ≠ (.slice Ao50 t498.length co50 : Value).ownBlock∧some k_ ≠ (.slice Ao52 t500.length co52 : Value).ownBlock∧some k_ ≠ (.slice Ao61 t469.length co61 : Value).ownBlock) (.slice Ao66 t476.length co66) t506)∧(w'.heap[gb407]? = some (.cells #[.slice A0_0 l0_0.length c0_0,.slice A0_1 l0_1.length c0_1,.slice A0_2 l0_2.length c0_2,.int .i64 a0_3,.slice A0_4 l0_4.length c0_4] 45 (0,0)))∧(w'.heap[gb408]? = some (.cells #[.int .i64 a1_0,.int .i64 a1_1,.int .i64 a1_2,.int .i64 a1_3,.int .i64 a1_4,.int .i64 a1_5,.int .i64 a1_6] 107 (0,0)))∧(w'.heap[gb444]? = some (.cells #[.slice Ao32 t430.length co32,.slice Ao34 t433.length co34,.slice Ao36 t436.length co36,.int .i64 t439,.slice Ao39 t440.length co39] 51 (0,0)))∧(w'.heap[gb458]? = some (.cells #[.slice Ao45 t497.length co45,.slice Ao50 t498.length co50,.slice Ao51 t499.length co51,.int .i64 t454,.slice Ao52 t500.length co52] 51 (0,0)))∧(w'.heap[gb480]? = some (.cells #[.slice Ao59 t466.length co59,.slice Ao61 t469.length co61,.slice Ao63 t472.length co63,.int .i64 t475,.slice Ao66 t476.length co66] 51 (0,0)))∧(w'.heap[s_.2.2.2.2.2.2.2.2]? = some (.cells #[.slice none 0 0,.slice none 0 0,.slice none 0 0,.int .i64 0,.slice none 0 0] 51 (0,0)))∧(w.heap.size ≤ s_.2.2.2.2.2.2.2.2)∧(w.heap.size ≤ s_.2.2.2.2.2.2.2.2)∧(gb407 ≠ s_.2.2.2.2.2.2.2.2)∧(s_.2.2.2.2.2.2.2.2 ≠ gb407)∧(gb408 ≠ s_.2.2.2.2.2.2.2.2)∧(s_.2.2.2.2.2.2.2.2 ≠ gb408)∧(gb444 ≠ s_.2.2.2.2.2.2.2.2)∧(s_.2.2.2.2.2.2.2.2 ≠ gb444)∧(gb458 ≠ s_.2.2.2.2.2.2.2.2)∧(s_.2.2.2.2.2.2.2.2 ≠ gb458)∧(gb480 ≠ s_.2.2.2.2.2.2.2.2)∧(s_.2.2.2.2.2.2.2.2 ≠ gb480)∧(Below w.heap.size w w')) ?_ ?_
     rotate_left
     ·intro hCont
      refine two_ (i:=1) (j:=8) (Ni:=some 81) (Nj:=some 14) (lb 11 7) (lb 11 261) rfl rfl rfl rfl (two_of HT_.out (by kernel_rfl)) (by decide) (by decide) (fun K hK=>?_) (fun K hK=>?_)
      rotate_left
      ·skip
       refine box_step ?hg (N:=14) ?hd (cs:=#[.slice none 0 0,.slice none 0 0,.slice none 0 0,.int .i64 0,.slice none 0 0]) (t:=51) ?hr ?_;(case hd=>rfl);(case hg=>rfl);(case hr=>first | (go_simp;done) | (go_simp;rfl))
       intro gb542 hg w158 hbox hb
       have n_ : _∧_∧_∧_∧_∧_∧_∧_∧_∧_∧_∧_∧_∧_∧_∧_∧_∧_∧_∧_∧_∧_∧_∧_∧_∧_∧_∧_∧_∧_∧_:=⟨ka HO_445000 hb,ka HO_445001 hb,ka HO_445002 hb,ka HO_445004 hb,ka HO_459000 hb,ka HO_459001 hb,ka HO_459002 hb,ka HO_459004 hb,ka HO_481000 hb,ka HO_481001 hb,ka HO_481002 hb,ka HO_481004 hb,kb BK407 hb,kb BK408 hb,kb BK444 hb,kb BK458 hb,kb BK480 hb,kh HB hb,ak (hbox),kz HB hg,kz HB hg,nl BK407 hg,ng BK407 hg,nl BK408 hg,ng BK408 hg,nl BK444 hg,ng BK444 hg,nl BK458 hg,ng BK458 hg,nl BK480 hg,ng BK480 hg⟩
       clear HO_445000 HO_445001 HO_445002 HO_445004 HO_459000 HO_459001 HO_459002 HO_459004 HO_481000 HO_481001 HO_481002 HO_481004 BK407 BK408 BK444 BK458 BK480 HB hb hbox hg
       obtain ⟨HO_445000,HO_445001,HO_445002,HO_445004,HO_459000,HO_459001,HO_459002,HO_459004,HO_481000,HO_481001,HO_481002,HO_481004,BK407,BK408,BK444,BK458,BK480,HB,BK542,GW542,GE542,NB407_542,NB542_407,NB408_542,NB542_408,NB444_542,NB542_444,NB458_542,NB542_458,NB480_542,NB542_480⟩:=n_
       refine hK.out _ _ ⟨ce BK407 0,ce BK407 1,ce BK407 2,ce BK407 3,ce BK407 4,ce BK408 0,ce BK408 1,ce BK408 2,ce BK408 3,ce BK408 4,ce BK408 5,ce BK408 6⟩ (fun hHeld=>?_)
       clear hK K
       refine nv 14 ?_
       refine ov 1 (some 81) 263 rfl rfl HT_ (fun K hK=>?_)
       refine gv Try.func25 #[.agg #[.slice A0_0 l0_0.length c0_0,.slice A0_1 l0_1.length c0_1,.slice A0_2 l0_2.length c0_2,.int .i64 a0_3,.slice A0_4 l0_4.length c0_4]] rfl rfl rfl ?_
       with_reducible refine (laws_toKeeper.calls kj94 _ _ l0_0 _ _ l0_1 _ _ l0_2 a0_3 _ _ l0_4 t508 t511 t514 t517 t518 _ ?side1 ?side2 ?side3 ?side4 ?side5 ?side6 ?side7 ?side8 A145.out).mono ?_
       (case side1=>exact rc (Kd.C_below HR0_0.out HB.out))
       (case side2=>exact HC0_0.out)
       (case side3=>exact rc (Kd.C_below HR0_1.out HB.out))
       (case side4=>exact HC0_1.out)
       (case side5=>exact rc (Kd.C_below HR0_2.out HB.out))
       (case side6=>exact HC0_2.out)
       (case side7=>exact rc (Kd.C_below HR0_4.out HB.out))
       (case side8=>exact HC0_4.out)
       rintro e w159 ⟨v509,v512,v515,v519,rfl,ho0,ho1,ho2,ho3,hb⟩
       refine ⟨_,rfl,?_⟩
       have n_ : _∧_∧_∧_∧_∧_∧_∧_∧_∧_∧_∧_∧_∧_∧_∧_∧_∧_∧_∧_∧_∧_∧_:=⟨ke HO_445000 ho0 hb,ak (Kd.R_mono (Kd.R_told (Kd.R_told (Kd.R_old (rr HO_445001.out) hb) (Kd.R_base ho1)) (Kd.R_base ho3)) (fun _ h_=>h_.1)),ke HO_445002 ho2 hb,ak (Kd.R_mono (Kd.R_told (Kd.R_told (Kd.R_old (rr HO_445004.out) hb) (Kd.R_base ho1)) (Kd.R_base ho3)) (fun _ h_=>h_.1)),ke HO_459000 ho0 hb,ak (Kd.R_mono (Kd.R_told (Kd.R_told (Kd.R_old (rr HO_459001.out) hb) (Kd.R_base ho1)) (Kd.R_base ho3)) (fun _ h_=>h_.1)),ke HO_459002 ho2 hb,ak (Kd.R_mono (Kd.R_told (Kd.R_told (Kd.R_old (rr HO_459004.out) hb) (Kd.R_base ho1)) (Kd.R_base ho3)) (fun _ h_=>h_.1)),ke HO_481000 ho0 hb,ak (Kd.R_mono (Kd.R_told (Kd.R_told (Kd.R_old (rr HO_481001.out) hb) (Kd.R_base ho1)) (Kd.R_base ho3)) (fun _ h_=>h_.1)),ke HO_481002 ho2 hb,ak (Kd.R_mono (Kd.R_told (Kd.R_told (Kd.R_old (rr HO_481004.out) hb) (Kd.R_base ho1)) (Kd.R_base ho3)) (fun _ h_=>h_.1)),kl (kn (kn (kn ho0 HO_445000) HO_459000) HO_481000) HB,kl (kn (kn (kn (kn (kn (kn ho1 HO_445001) HO_445004) HO_459001) HO_459004) HO_481001) HO_481004) HB,kl (kn (kn (kn ho2 HO_445002) HO_459002) HO_481002) HB,kl (kn (kn (kn (kn (kn (kn ho3 HO_445001) HO_445004) HO_459001) HO_459004) HO_481001) HO_481004) HB,kb BK407 hb,kb BK408 hb,kb BK444 hb,kb BK458 hb,kb BK480 hb,kb BK542 hb,kh HB hb⟩
       clear HO_445000 HO_445001 HO_445002 HO_445004 HO_459000 HO_459001 HO_459002 HO_459004 HO_481000 HO_481001 HO_481002 HO_481004 BK407 BK408 BK444 BK458 BK480 BK542 HB
       obtain ⟨HO_445000,HO_445001,HO_445002,HO_445004,HO_459000,HO_459001,HO_459002,HO_459004,HO_481000,HO_481001,HO_481002,HO_481004,HO510,HO513,HO516,HO520,BK407,BK408,BK444,BK458,BK480,BK542,HB⟩:=n_
       (try clear hb)
       (try clear hb2)
       (try clear hk)
       (try clear hi)
       (try clear ho0)
       (try clear ho1)
       (try clear ho2)
       (try clear ho3)
       refine hK.out _ _ ⟨ce BK407 0,ce BK407 1,ce BK407 2,ce BK407 3,ce BK407 4,ce BK408 0,ce BK408 1,ce BK408 2,ce BK408 3,ce BK408 4,ce BK408 5,ce BK408 6⟩ (fun hHeld=>?_)
       clear hK K
       refine nv 81 ?_
       refine ov 3 (some 83) 271 rfl rfl HT_ (fun K hK=>?_)
       refine gv Try.func83 #[.agg #[.int .i64 a1_0,.int .i64 a1_1,.int .i64 a1_2,.int .i64 a1_3,.int .i64 a1_4,.int .i64 a1_5,.int .i64 a1_6]] rfl rfl rfl ?_
       with_reducible refine (laws_toFrame.calls a1_0 a1_1 a1_2 a1_3 a1_4 a1_5 a1_6 t521 t522 t523 t524 t525 t526 t527 _ A146.out).mono ?_
       rintro e w160 ⟨rfl,hb⟩
       refine ⟨_,rfl,?_⟩
       have n_ : _∧_∧_∧_∧_∧_∧_∧_∧_∧_∧_∧_∧_∧_∧_∧_∧_∧_∧_∧_∧_∧_∧_:=⟨ka HO_445000 hb,ka HO_445001 hb,ka HO_445002 hb,ka HO_445004 hb,ka HO_459000 hb,ka HO_459001 hb,ka HO_459002 hb,ka HO_459004 hb,ka HO_481000 hb,ka HO_481001 hb,ka HO_481002 hb,ka HO_481004 hb,ka HO510 hb,ka HO513 hb,ka HO516 hb,ka HO520 hb,kb BK407 hb,kb BK408 hb,kb BK444 hb,kb BK458 hb,kb BK480 hb,kb BK542 hb,kh HB hb⟩
       clear HO_445000 HO_445001 HO_445002 HO_445004 HO_459000 HO_459001 HO_459002 HO_459004 HO_481000 HO_481001 HO_481002 HO_481004 HO510 HO513 HO516 HO520 BK407 BK408 BK444 BK458 BK480 BK542 HB
       obtain ⟨HO_445000,HO_445001,HO_445002,HO_445004,HO_459000,HO_459001,HO_459002,HO_459004,HO_481000,HO_481001,HO_481002,HO_481004,HO510,HO513,HO516,HO520,BK407,BK408,BK444,BK458,BK480,BK542,HB⟩:=n_
       (try clear hb)
       (try clear hb2)
       (try clear hk)
       (try clear hi)
       obtain ⟨Ao161,co161,eo161⟩:=Kd.R_slice HO510.out
       (first | subst eo161 | obtain ⟨rfl,rfl⟩:=se eo161)
       obtain ⟨Ao162,co162,eo162⟩:=Kd.R_slice HO513.out
       (first | subst eo162 | obtain ⟨rfl,rfl⟩:=se eo162)
       obtain ⟨Ao163,co163,eo163⟩:=Kd.R_slice HO516.out
       (first | subst eo163 | obtain ⟨rfl,rfl⟩:=se eo163)
       obtain ⟨Ao164,co164,eo164⟩:=Kd.R_slice HO520.out
       (first | subst eo164 | obtain ⟨rfl,rfl⟩:=se eo164)
       refine hK.out _ _ ⟨ce BK407 0,ce BK407 1,ce BK407 2,ce BK407 3,ce BK407 4,ce BK408 0,ce BK408 1,ce BK408 2,ce BK408 3,ce BK408 4,ce BK408 5,ce BK408 6⟩ (fun hHeld=>?_)
       clear hK K
       refine nv 83 ?_
       refine ov 4 (some 84) 287 rfl rfl HT_ (fun K hK=>?_)
       refine gv Try.func29 #[.agg #[.slice Ao161 t508.length co161,.slice Ao162 t511.length co162,.slice Ao163 t514.length co163,.int .i64 t517,.slice Ao164 t518.length co164],.agg #[.int .i64 t521,.int .i64 t522,.int .i64 t523,.int .i64 t524,.int .i64 t525,.int .i64 t526,.int .i64 t527]] rfl rfl rfl ?_
       with_reducible refine (impl_Kept.calls kj94 _ _ t508 _ _ t511 _ _ t514 t517 _ _ t518 t521 t522 t523 t524 t525 t526 t527 t528 t531 t534 t537 t538 t541 _ ?side1 ?side2 ?side3 ?side4 ?side5 ?side6 ?side7 ?side8 A147.out).mono ?_
       (case side1=>exact rc (Kd.R_reads' HO510.out).2.2)
       (case side2=>exact (Kd.R_reads' HO510.out).2.1)
       (case side3=>exact rc (Kd.R_reads' HO513.out).2.2)
       (case side4=>exact (Kd.R_reads' HO513.out).2.1)
       (case side5=>exact rc (Kd.R_reads' HO516.out).2.2)
       (case side6=>exact (Kd.R_reads' HO516.out).2.1)
       (case side7=>exact rc (Kd.R_reads' HO520.out).2.2)
       (case side8=>exact (Kd.R_reads' HO520.out).2.1)
       rintro e w165 ⟨v529,v532,v535,v539,rfl,ho0,ho1,ho2,ho3,hb⟩
       refine ⟨_,rfl,?_⟩
       have n_ : _∧_∧_∧_∧_∧_∧_∧_∧_∧_∧_∧_∧_∧_∧_∧_∧_∧_∧_∧_∧_∧_∧_∧_∧_∧_∧_:=⟨ke HO_445000 ho0 hb,ak (Kd.R_mono (Kd.R_told (Kd.R_told (Kd.R_old (rr HO_445001.out) hb) (Kd.R_base ho1)) (Kd.R_base ho3)) (fun _ h_=>h_.1)),ke HO_445002 ho2 hb,ak (Kd.R_mono (Kd.R_told (Kd.R_told (Kd.R_old (rr HO_445004.out) hb) (Kd.R_base ho1)) (Kd.R_base ho3)) (fun _ h_=>h_.1)),ke HO_459000 ho0 hb,ak (Kd.R_mono (Kd.R_told (Kd.R_told (Kd.R_old (rr HO_459001.out) hb) (Kd.R_base ho1)) (Kd.R_base ho3)) (fun _ h_=>h_.1)),ke HO_459002 ho2 hb,ak (Kd.R_mono (Kd.R_told (Kd.R_told (Kd.R_old (rr HO_459004.out) hb) (Kd.R_base ho1)) (Kd.R_base ho3)) (fun _ h_=>h_.1)),ke HO_481000 ho0 hb,ak (Kd.R_mono (Kd.R_told (Kd.R_told (Kd.R_old (rr HO_481001.out) hb) (Kd.R_base ho1)) (Kd.R_base ho3)) (fun _ h_=>h_.1)),ke HO_481002 ho2 hb,ak (Kd.R_mono (Kd.R_told (Kd.R_told (Kd.R_old (rr HO_481004.out) hb) (Kd.R_base ho1)) (Kd.R_base ho3)) (fun _ h_=>h_.1)),ke HO510 ho0 hb,ak (Kd.R_mono (Kd.R_told (Kd.R_told (Kd.R_old (rr HO513.out) hb) (Kd.R_base ho1)) (Kd.R_base ho3)) (fun _ h_=>h_.1)),ke HO516 ho2 hb,ak (Kd.R_mono (Kd.R_told (Kd.R_told (Kd.R_old (rr HO520.out) hb) (Kd.R_base ho1)) (Kd.R_base ho3)) (fun _ h_=>h_.1)),kl (kn (kn (kn (kn ho0 HO_445000) HO_459000) HO_481000) HO510) HB,kl (kn (kn (kn (kn (kn (kn (kn (kn ho1 HO_445001) HO_445004) HO_459001) HO_459004) HO_481001) HO_481004) HO513) HO520) HB,kl (kn (kn (kn (kn ho2 HO_445002) HO_459002) HO_481002) HO516) HB,kl (kn (kn (kn (kn (kn (kn (kn (kn ho3 HO_445001) HO_445004) HO_459001) HO_459004) HO_481001) HO_481004) HO513) HO520) HB,kb BK407 hb,kb BK408 hb,kb BK444 hb,kb BK458 hb,kb BK480 hb,kb BK542 hb,kh HB hb⟩
       clear HO_445000 HO_445001 HO_445002 HO_445004 HO_459000 HO_459001 HO_459002 HO_459004 HO_481000 HO_481001 HO_481002 HO_481004 HO510 HO513 HO516 HO520 BK407 BK408 BK444 BK458 BK480 BK542 HB
       obtain ⟨HO_445000,HO_445001,HO_445002,HO_445004,HO_459000,HO_459001,HO_459002,HO_459004,HO_481000,HO_481001,HO_481002,HO_481004,HO510,HO513,HO516,HO520,HO530,HO533,HO536,HO540,BK407,BK408,BK444,BK458,BK480,BK542,HB⟩:=n_
       (try clear hb)
       (try clear hb2)
       (try clear hk)
       (try clear hi)
       (try clear ho0)
       (try clear ho1)
       (try clear ho2)
       (try clear ho3)
       refine hK.out _ _ ⟨ce BK407 0,ce BK407 1,ce BK407 2,ce BK407 3,ce BK407 4,ce BK408 0,ce BK408 1,ce BK408 2,ce BK408 3,ce BK408 4,ce BK408 5,ce BK408 6⟩ (fun hHeld=>?_)
       clear hK K
       refine nv 84 ?_
       refine pv 5 (some 79) 319 rfl rfl HT_ ?_
       refine pv 6 (some 85) 383 rfl rfl HT_ ?_
       refine pv 7 (some 86) 511 rfl rfl HT_ ?_
       exact norm_ (by simp only [putAll,Act.put,List.setIfInBounds_toArray,List.set_cons_zero,List.set_cons_succ]) (hCont (.slice Ao161 t508.length co161,.slice Ao162 t511.length co162,.slice Ao163 t514.length co163,.slice Ao164 t518.length co164,v529,v532,v535,v539,gb542) _ ⟨hHeld,(rn HO510),(rn HO513),(rn HO516),(rn HO520),(rn HO530),(rn HO533),(rn HO536),(rn HO540),(rn HO_445000),(rn HO_445001),(rn HO_445002),(rn HO_445004),(rn HO_459000),(rn HO_459001),(rn HO_459002),(rn HO_459004),(rn HO_481000),(rn HO_481001),(rn HO_481002),(rn HO_481004),(rk BK407.out),(rk BK408.out),(rk BK444.out),(rk BK458.out),(rk BK480.out),(rk BK542.out),GW542.out,GE542.out,NB407_542.out,NB542_407.out,NB408_542.out,NB542_408.out,NB444_542.out,NB542_444.out,NB458_542.out,NB542_458.out,NB480_542.out,NB542_480.out,(rb6 GE407.out GE408.out GE444.out GE458.out GE480.out GE542.out HB.out)⟩)
      skip
      refine gv Try.func25 #[.agg #[.slice A0_0 l0_0.length c0_0,.slice A0_1 l0_1.length c0_1,.slice A0_2 l0_2.length c0_2,.int .i64 a0_3,.slice A0_4 l0_4.length c0_4]] rfl rfl rfl ?_
      with_reducible refine (laws_toKeeper.calls kj94 _ _ l0_0 _ _ l0_1 _ _ l0_2 a0_3 _ _ l0_4 t508 t511 t514 t517 t518 _ ?side1 ?side2 ?side3 ?side4 ?side5 ?side6 ?side7 ?side8 A145.out).mono ?_
      (case side1=>exact rc (Kd.C_below HR0_0.out HB.out))
      (case side2=>exact HC0_0.out)
      (case side3=>exact rc (Kd.C_below HR0_1.out HB.out))
      (case side4=>exact HC0_1.out)
      (case side5=>exact rc (Kd.C_below HR0_2.out HB.out))
      (case side6=>exact HC0_2.out)
      (case side7=>exact rc (Kd.C_below HR0_4.out HB.out))
      (case side8=>exact HC0_4.out)
      rintro e w158 ⟨v509,v512,v515,v519,rfl,ho0,ho1,ho2,ho3,hb⟩
      refine ⟨_,rfl,?_⟩
      have n_ : _∧_∧_∧_∧_∧_∧_∧_∧_∧_∧_∧_∧_∧_∧_∧_∧_∧_∧_∧_∧_∧_:=⟨ke HO_445000 ho0 hb,ak (Kd.R_mono (Kd.R_told (Kd.R_told (Kd.R_old (rr HO_445001.out) hb) (Kd.R_base ho1)) (Kd.R_base ho3)) (fun _ h_=>h_.1)),ke HO_445002 ho2 hb,ak (Kd.R_mono (Kd.R_told (Kd.R_told (Kd.R_old (rr HO_445004.out) hb) (Kd.R_base ho1)) (Kd.R_base ho3)) (fun _ h_=>h_.1)),ke HO_459000 ho0 hb,ak (Kd.R_mono (Kd.R_told (Kd.R_told (Kd.R_old (rr HO_459001.out) hb) (Kd.R_base ho1)) (Kd.R_base ho3)) (fun _ h_=>h_.1)),ke HO_459002 ho2 hb,ak (Kd.R_mono (Kd.R_told (Kd.R_told (Kd.R_old (rr HO_459004.out) hb) (Kd.R_base ho1)) (Kd.R_base ho3)) (fun _ h_=>h_.1)),ke HO_481000 ho0 hb,ak (Kd.R_mono (Kd.R_told (Kd.R_told (Kd.R_old (rr HO_481001.out) hb) (Kd.R_base ho1)) (Kd.R_base ho3)) (fun _ h_=>h_.1)),ke HO_481002 ho2 hb,ak (Kd.R_mono (Kd.R_told (Kd.R_told (Kd.R_old (rr HO_481004.out) hb) (Kd.R_base ho1)) (Kd.R_base ho3)) (fun _ h_=>h_.1)),kl (kn (kn (kn ho0 HO_445000) HO_459000) HO_481000) HB,kl (kn (kn (kn (kn (kn (kn ho1 HO_445001) HO_445004) HO_459001) HO_459004) HO_481001) HO_481004) HB,kl (kn (kn (kn ho2 HO_445002) HO_459002) HO_481002) HB,kl (kn (kn (kn (kn (kn (kn ho3 HO_445001) HO_445004) HO_459001) HO_459004) HO_481001) HO_481004) HB,kb BK407 hb,kb BK408 hb,kb BK444 hb,kb BK458 hb,kb BK480 hb,kh HB hb⟩
      clear HO_445000 HO_445001 HO_445002 HO_445004 HO_459000 HO_459001 HO_459002 HO_459004 HO_481000 HO_481001 HO_481002 HO_481004 BK407 BK408 BK444 BK458 BK480 HB
      obtain ⟨HO_445000,HO_445001,HO_445002,HO_445004,HO_459000,HO_459001,HO_459002,HO_459004,HO_481000,HO_481001,HO_481002,HO_481004,HO510,HO513,HO516,HO520,BK407,BK408,BK444,BK458,BK480,HB⟩:=n_
      (try clear hb)
      (try clear hb2)
      (try clear hk)
      (try clear hi)
      (try clear ho0)
      (try clear ho1)
      (try clear ho2)
      (try clear ho3)
      refine hK.out _ _ ⟨ce BK407 0,ce BK407 1,ce BK407 2,ce BK407 3,ce BK407 4,ce BK408 0,ce BK408 1,ce BK408 2,ce BK408 3,ce BK408 4,ce BK408 5,ce BK408 6⟩ (fun hHeld=>?_)
      clear hK K
      refine nv 81 ?_
      refine two_ (i:=3) (j:=8) (Ni:=some 83) (Nj:=some 14) (lb 11 15) (lb 11 263) rfl rfl rfl rfl (two_of HT_.out (by kernel_rfl)) (by decide) (by decide) (fun K hK=>?_) (fun K hK=>?_)
      rotate_left
      ·skip
       refine box_step ?hg (N:=14) ?hd (cs:=#[.slice none 0 0,.slice none 0 0,.slice none 0 0,.int .i64 0,.slice none 0 0]) (t:=51) ?hr ?_;(case hd=>rfl);(case hg=>rfl);(case hr=>first | (go_simp;done) | (go_simp;rfl))
       intro gb542 hg w159 hbox hb
       have n_ : _∧_∧_∧_∧_∧_∧_∧_∧_∧_∧_∧_∧_∧_∧_∧_∧_∧_∧_∧_∧_∧_∧_∧_∧_∧_∧_∧_∧_∧_∧_∧_∧_∧_∧_:=⟨ka HO_445000 hb,ka HO_445001 hb,ka HO_445002 hb,ka HO_445004 hb,ka HO_459000 hb,ka HO_459001 hb,ka HO_459002 hb,ka HO_459004 hb,ka HO_481000 hb,ka HO_481001 hb,ka HO_481002 hb,ka HO_481004 hb,ka HO510 hb,ka HO513 hb,ka HO516 hb,ka HO520 hb,kb BK407 hb,kb BK408 hb,kb BK444 hb,kb BK458 hb,kb BK480 hb,kh HB hb,ak (hbox),kz HB hg,kz HB hg,nl BK407 hg,ng BK407 hg,nl BK408 hg,ng BK408 hg,nl BK444 hg,ng BK444 hg,nl BK458 hg,ng BK458 hg,nl BK480 hg,ng BK480 hg⟩
       clear HO_445000 HO_445001 HO_445002 HO_445004 HO_459000 HO_459001 HO_459002 HO_459004 HO_481000 HO_481001 HO_481002 HO_481004 HO510 HO513 HO516 HO520 BK407 BK408 BK444 BK458 BK480 HB hb hbox hg
       obtain ⟨HO_445000,HO_445001,HO_445002,HO_445004,HO_459000,HO_459001,HO_459002,HO_459004,HO_481000,HO_481001,HO_481002,HO_481004,HO510,HO513,HO516,HO520,BK407,BK408,BK444,BK458,BK480,HB,BK542,GW542,GE542,NB407_542,NB542_407,NB408_542,NB542_408,NB444_542,NB542_444,NB458_542,NB542_458,NB480_542,NB542_480⟩:=n_
       refine hK.out _ _ ⟨ce BK407 0,ce BK407 1,ce BK407 2,ce BK407 3,ce BK407 4,ce BK408 0,ce BK408 1,ce BK408 2,ce BK408 3,ce BK408 4,ce BK408 5,ce BK408 6⟩ (fun hHeld=>?_)
       clear hK K
       refine nv 14 ?_
       refine ov 3 (some 83) 271 rfl rfl HT_ (fun K hK=>?_)
       refine gv Try.func83 #[.agg #[.int .i64 a1_0,.int .i64 a1_1,.int .i64 a1_2,.int .i64 a1_3,.int .i64 a1_4,.int .i64 a1_5,.int .i64 a1_6]] rfl rfl rfl ?_
       with_reducible refine (laws_toFrame.calls a1_0 a1_1 a1_2 a1_3 a1_4 a1_5 a1_6 t521 t522 t523 t524 t525 t526 t527 _ A146.out).mono ?_
       rintro e w160 ⟨rfl,hb⟩
       refine ⟨_,rfl,?_⟩
       have n_ : _∧_∧_∧_∧_∧_∧_∧_∧_∧_∧_∧_∧_∧_∧_∧_∧_∧_∧_∧_∧_∧_∧_:=⟨ka HO_445000 hb,ka HO_445001 hb,ka HO_445002 hb,ka HO_445004 hb,ka HO_459000 hb,ka HO_459001 hb,ka HO_459002 hb,ka HO_459004 hb,ka HO_481000 hb,ka HO_481001 hb,ka HO_481002 hb,ka HO_481004 hb,ka HO510 hb,ka HO513 hb,ka HO516 hb,ka HO520 hb,kb BK407 hb,kb BK408 hb,kb BK444 hb,kb BK458 hb,kb BK480 hb,kb BK542 hb,kh HB hb⟩
       clear HO_445000 HO_445001 HO_445002 HO_445004 HO_459000 HO_459001 HO_459002 HO_459004 HO_481000 HO_481001 HO_481002 HO_481004 HO510 HO513 HO516 HO520 BK407 BK408 BK444 BK458 BK480 BK542 HB
       obtain ⟨HO_445000,HO_445001,HO_445002,HO_445004,HO_459000,HO_459001,HO_459002,HO_459004,HO_481000,HO_481001,HO_481002,HO_481004,HO510,HO513,HO516,HO520,BK407,BK408,BK444,BK458,BK480,BK542,HB⟩:=n_
       (try clear hb)
       (try clear hb2)
       (try clear hk)
       (try clear hi)
       obtain ⟨Ao161,co161,eo161⟩:=Kd.R_slice HO510.out
       (first | subst eo161 | obtain ⟨rfl,rfl⟩:=se eo161)
       obtain ⟨Ao162,co162,eo162⟩:=Kd.R_slice HO513.out
       (first | subst eo162 | obtain ⟨rfl,rfl⟩:=se eo162)
       obtain ⟨Ao163,co163,eo163⟩:=Kd.R_slice HO516.out
       (first | subst eo163 | obtain ⟨rfl,rfl⟩:=se eo163)
       obtain ⟨Ao164,co164,eo164⟩:=Kd.R_slice HO520.out
       (first | subst eo164 | obtain ⟨rfl,rfl⟩:=se eo164)
       refine hK.out _ _ ⟨ce BK407 0,ce BK407 1,ce BK407 2,ce BK407 3,ce BK407 4,ce BK408 0,ce BK408 1,ce BK408 2,ce BK408 3,ce BK408 4,ce BK408 5,ce BK408 6⟩ (fun hHeld=>?_)
       clear hK K
       refine nv 83 ?_
       refine ov 4 (some 84) 287 rfl rfl HT_ (fun K hK=>?_)
       refine gv Try.func29 #[.agg #[.slice Ao161 t508.length co161,.slice Ao162 t511.length co162,.slice Ao163 t514.length co163,.int .i64 t517,.slice Ao164 t518.length co164],.agg #[.int .i64 t521,.int .i64 t522,.int .i64 t523,.int .i64 t524,.int .i64 t525,.int .i64 t526,.int .i64 t527]] rfl rfl rfl ?_
       with_reducible refine (impl_Kept.calls kj94 _ _ t508 _ _ t511 _ _ t514 t517 _ _ t518 t521 t522 t523 t524 t525 t526 t527 t528 t531 t534 t537 t538 t541 _ ?side1 ?side2 ?side3 ?side4 ?side5 ?side6 ?side7 ?side8 A147.out).mono ?_
       (case side1=>exact rc (Kd.R_reads' HO510.out).2.2)
       (case side2=>exact (Kd.R_reads' HO510.out).2.1)
       (case side3=>exact rc (Kd.R_reads' HO513.out).2.2)
       (case side4=>exact (Kd.R_reads' HO513.out).2.1)
       (case side5=>exact rc (Kd.R_reads' HO516.out).2.2)
       (case side6=>exact (Kd.R_reads' HO516.out).2.1)
       (case side7=>exact rc (Kd.R_reads' HO520.out).2.2)
       (case side8=>exact (Kd.R_reads' HO520.out).2.1)
       rintro e w165 ⟨v529,v532,v535,v539,rfl,ho0,ho1,ho2,ho3,hb⟩
       refine ⟨_,rfl,?_⟩
       have n_ : _∧_∧_∧_∧_∧_∧_∧_∧_∧_∧_∧_∧_∧_∧_∧_∧_∧_∧_∧_∧_∧_∧_∧_∧_∧_∧_:=⟨ke HO_445000 ho0 hb,ak (Kd.R_mono (Kd.R_told (Kd.R_told (Kd.R_old (rr HO_445001.out) hb) (Kd.R_base ho1)) (Kd.R_base ho3)) (fun _ h_=>h_.1)),ke HO_445002 ho2 hb,ak (Kd.R_mono (Kd.R_told (Kd.R_told (Kd.R_old (rr HO_445004.out) hb) (Kd.R_base ho1)) (Kd.R_base ho3)) (fun _ h_=>h_.1)),ke HO_459000 ho0 hb,ak (Kd.R_mono (Kd.R_told (Kd.R_told (Kd.R_old (rr HO_459001.out) hb) (Kd.R_base ho1)) (Kd.R_base ho3)) (fun _ h_=>h_.1)),ke HO_459002 ho2 hb,ak (Kd.R_mono (Kd.R_told (Kd.R_told (Kd.R_old (rr HO_459004.out) hb) (Kd.R_base ho1)) (Kd.R_base ho3)) (fun _ h_=>h_.1)),ke HO_481000 ho0 hb,ak (Kd.R_mono (Kd.R_told (Kd.R_told (Kd.R_old (rr HO_481001.out) hb) (Kd.R_base ho1)) (Kd.R_base ho3)) (fun _ h_=>h_.1)),ke HO_481002 ho2 hb,ak (Kd.R_mono (Kd.R_told (Kd.R_told (Kd.R_old (rr HO_481004.out) hb) (Kd.R_base ho1)) (Kd.R_base ho3)) (fun _ h_=>h_.1)),ke HO510 ho0 hb,ak (Kd.R_mono (Kd.R_told (Kd.R_told (Kd.R_old (rr HO513.out) hb) (Kd.R_base ho1)) (Kd.R_base ho3)) (fun _ h_=>h_.1)),ke HO516 ho2 hb,ak (Kd.R_mono (Kd.R_told (Kd.R_told (Kd.R_old (rr HO520.out) hb) (Kd.R_base ho1)) (Kd.R_base ho3)) (fun _ h_=>h_.1)),kl (kn (kn (kn (kn ho0 HO_445000) HO_459000) HO_481000) HO510) HB,kl (kn (kn (kn (kn (kn (kn (kn (kn ho1 HO_445001) HO_445004) HO_459001) HO_459004) HO_481001) HO_481004) HO513) HO520) HB,kl (kn (kn (kn (kn ho2 HO_445002) HO_459002) HO_481002) HO516) HB,kl (kn (kn (kn (kn (kn (kn (kn (kn ho3 HO_445001) HO_445004) HO_459001) HO_459004) HO_481001) HO_481004) HO513) HO520) HB,kb BK407 hb,kb BK408 hb,kb BK444 hb,kb BK458 hb,kb BK480 hb,kb BK542 hb,kh HB hb⟩
       clear HO_445000 HO_445001 HO_445002 HO_445004 HO_459000 HO_459001 HO_459002 HO_459004 HO_481000 HO_481001 HO_481002 HO_481004 HO510 HO513 HO516 HO520 BK407 BK408 BK444 BK458 BK480 BK542 HB
       obtain ⟨HO_445000,HO_445001,HO_445002,HO_445004,HO_459000,HO_459001,HO_459002,HO_459004,HO_481000,HO_481001,HO_481002,HO_481004,HO510,HO513,HO516,HO520,HO530,HO533,HO536,HO540,BK407,BK408,BK444,BK458,BK480,BK542,HB⟩:=n_
       (try clear hb)
       (try clear hb2)
       (try clear hk)
       (try clear hi)
       (try clear ho0)
       (try clear ho1)
       (try clear ho2)
       (try clear ho3)
       refine hK.out _ _ ⟨ce BK407 0,ce BK407 1,ce BK407 2,ce BK407 3,ce BK407 4,ce BK408 0,ce BK408 1,ce BK408 2,ce BK408 3,ce BK408 4,ce BK408 5,ce BK408 6⟩ (fun hHeld=>?_)
       clear hK K
       refine nv 84 ?_
       refine pv 5 (some 79) 319 rfl rfl HT_ ?_
       refine pv 6 (some 85) 383 rfl rfl HT_ ?_
       refine pv 7 (some 86) 511 rfl rfl HT_ ?_
       exact norm_ (by simp only [putAll,Act.put,List.setIfInBounds_toArray,List.set_cons_zero,List.set_cons_succ]) (hCont (.slice Ao161 t508.length co161,.slice Ao162 t511.length co162,.slice Ao163 t514.length co163,.slice Ao164 t518.length co164,v529,v532,v535,v539,gb542) _ ⟨hHeld,(rn HO510),(rn HO513),(rn HO516),(rn HO520),(rn HO530),(rn HO533),(rn HO536),(rn HO540),(rn HO_445000),(rn HO_445001),(rn HO_445002),(rn HO_445004),(rn HO_459000),(rn HO_459001),(rn HO_459002),(rn HO_459004),(rn HO_481000),(rn HO_481001),(rn HO_481002),(rn HO_481004),(rk BK407.out),(rk BK408.out),(rk BK444.out),(rk BK458.out),(rk BK480.out),(rk BK542.out),GW542.out,GE542.out,NB407_542.out,NB542_407.out,NB408_542.out,NB542_408.out,NB444_542.out,NB542_444.out,NB458_542.out,NB542_458.out,NB480_542.out,NB542_480.out,(rb6 GE407.out GE408.out GE444.out GE458.out GE480.out GE542.out HB.out)⟩)
      skip
      refine gv Try.func83 #[.agg #[.int .i64 a1_0,.int .i64 a1_1,.int .i64 a1_2,.int .i64 a1_3,.int .i64 a1_4,.int .i64 a1_5,.int .i64 a1_6]] rfl rfl rfl ?_
      with_reducible refine (laws_toFrame.calls a1_0 a1_1 a1_2 a1_3 a1_4 a1_5 a1_6 t521 t522 t523 t524 t525 t526 t527 _ A146.out).mono ?_
      rintro e w159 ⟨rfl,hb⟩
      refine ⟨_,rfl,?_⟩
      have n_ : _∧_∧_∧_∧_∧_∧_∧_∧_∧_∧_∧_∧_∧_∧_∧_∧_∧_∧_∧_∧_∧_:=⟨ka HO_445000 hb,ka HO_445001 hb,ka HO_445002 hb,ka HO_445004 hb,ka HO_459000 hb,ka HO_459001 hb,ka HO_459002 hb,ka HO_459004 hb,ka HO_481000 hb,ka HO_481001 hb,ka HO_481002 hb,ka HO_481004 hb,ka HO510 hb,ka HO513 hb,ka HO516 hb,ka HO520 hb,kb BK407 hb,kb BK408 hb,kb BK444 hb,kb BK458 hb,kb BK480 hb,kh HB hb⟩
      clear HO_445000 HO_445001 HO_445002 HO_445004 HO_459000 HO_459001 HO_459002 HO_459004 HO_481000 HO_481001 HO_481002 HO_481004 HO510 HO513 HO516 HO520 BK407 BK408 BK444 BK458 BK480 HB
      obtain ⟨HO_445000,HO_445001,HO_445002,HO_445004,HO_459000,HO_459001,HO_459002,HO_459004,HO_481000,HO_481001,HO_481002,HO_481004,HO510,HO513,HO516,HO520,BK407,BK408,BK444,BK458,BK480,HB⟩:=n_
      (try clear hb)
      (try clear hb2)
      (try clear hk)
      (try clear hi)
      obtain ⟨Ao160,co160,eo160⟩:=Kd.R_slice HO510.out
      (first | subst eo160 | obtain ⟨rfl,rfl⟩:=se eo160)
      obtain ⟨Ao161,co161,eo161⟩:=Kd.R_slice HO513.out
      (first | subst eo161 | obtain ⟨rfl,rfl⟩:=se eo161)
      obtain ⟨Ao162,co162,eo162⟩:=Kd.R_slice HO516.out
      (first | subst eo162 | obtain ⟨rfl,rfl⟩:=se eo162)
      obtain ⟨Ao163,co163,eo163⟩:=Kd.R_slice HO520.out
      (first | subst eo163 | obtain ⟨rfl,rfl⟩:=se eo163)
      refine hK.out _ _ ⟨ce BK407 0,ce BK407 1,ce BK407 2,ce BK407 3,ce BK407 4,ce BK408 0,ce BK408 1,ce BK408 2,ce BK408 3,ce BK408 4,ce BK408 5,ce BK408 6⟩ (fun hHeld=>?_)
      clear hK K
      refine nv 83 ?_
      refine two_ (i:=4) (j:=8) (Ni:=some 84) (Nj:=some 14) (lb 11 31) (lb 11 271) rfl rfl rfl rfl (two_of HT_.out (by kernel_rfl)) (by decide) (by decide) (fun K hK=>?_) (fun K hK=>?_)
      ·skip
       refine gv Try.func29 #[.agg #[.slice Ao160 t508.length co160,.slice Ao161 t511.length co161,.slice Ao162 t514.length co162,.int .i64 t517,.slice Ao163 t518.length co163],.agg #[.int .i64 t521,.int .i64 t522,.int .i64 t523,.int .i64 t524,.int .i64 t525,.int .i64 t526,.int .i64 t527]] rfl rfl rfl ?_
       with_reducible refine (impl_Kept.calls kj94 _ _ t508 _ _ t511 _ _ t514 t517 _ _ t518 t521 t522 t523 t524 t525 t526 t527 t528 t531 t534 t537 t538 t541 _ ?side1 ?side2 ?side3 ?side4 ?side5 ?side6 ?side7 ?side8 A147.out).mono ?_
       (case side1=>exact rc (Kd.R_reads' HO510.out).2.2)
       (case side2=>exact (Kd.R_reads' HO510.out).2.1)
       (case side3=>exact rc (Kd.R_reads' HO513.out).2.2)
       (case side4=>exact (Kd.R_reads' HO513.out).2.1)
       (case side5=>exact rc (Kd.R_reads' HO516.out).2.2)
       (case side6=>exact (Kd.R_reads' HO516.out).2.1)
       (case side7=>exact rc (Kd.R_reads' HO520.out).2.2)
       (case side8=>exact (Kd.R_reads' HO520.out).2.1)
       rintro e w164 ⟨v529,v532,v535,v539,rfl,ho0,ho1,ho2,ho3,hb⟩
       refine ⟨_,rfl,?_⟩
       have n_ : _∧_∧_∧_∧_∧_∧_∧_∧_∧_∧_∧_∧_∧_∧_∧_∧_∧_∧_∧_∧_∧_∧_∧_∧_∧_:=⟨ke HO_445000 ho0 hb,ak (Kd.R_mono (Kd.R_told (Kd.R_told (Kd.R_old (rr HO_445001.out) hb) (Kd.R_base ho1)) (Kd.R_base ho3)) (fun _ h_=>h_.1)),ke HO_445002 ho2 hb,ak (Kd.R_mono (Kd.R_told (Kd.R_told (Kd.R_old (rr HO_445004.out) hb) (Kd.R_base ho1)) (Kd.R_base ho3)) (fun _ h_=>h_.1)),ke HO_459000 ho0 hb,ak (Kd.R_mono (Kd.R_told (Kd.R_told (Kd.R_old (rr HO_459001.out) hb) (Kd.R_base ho1)) (Kd.R_base ho3)) (fun _ h_=>h_.1)),ke HO_459002 ho2 hb,ak (Kd.R_mono (Kd.R_told (Kd.R_told (Kd.R_old (rr HO_459004.out) hb) (Kd.R_base ho1)) (Kd.R_base ho3)) (fun _ h_=>h_.1)),ke HO_481000 ho0 hb,ak (Kd.R_mono (Kd.R_told (Kd.R_told (Kd.R_old (rr HO_481001.out) hb) (Kd.R_base ho1)) (Kd.R_base ho3)) (fun _ h_=>h_.1)),ke HO_481002 ho2 hb,ak (Kd.R_mono (Kd.R_told (Kd.R_told (Kd.R_old (rr HO_481004.out) hb) (Kd.R_base ho1)) (Kd.R_base ho3)) (fun _ h_=>h_.1)),ke HO510 ho0 hb,ak (Kd.R_mono (Kd.R_told (Kd.R_told (Kd.R_old (rr HO513.out) hb) (Kd.R_base ho1)) (Kd.R_base ho3)) (fun _ h_=>h_.1)),ke HO516 ho2 hb,ak (Kd.R_mono (Kd.R_told (Kd.R_told (Kd.R_old (rr HO520.out) hb) (Kd.R_base ho1)) (Kd.R_base ho3)) (fun _ h_=>h_.1)),kl (kn (kn (kn (kn ho0 HO_445000) HO_459000) HO_481000) HO510) HB,kl (kn (kn (kn (kn (kn (kn (kn (kn ho1 HO_445001) HO_445004) HO_459001) HO_459004) HO_481001) HO_481004) HO513) HO520) HB,kl (kn (kn (kn (kn ho2 HO_445002) HO_459002) HO_481002) HO516) HB,kl (kn (kn (kn (kn (kn (kn (kn (kn ho3 HO_445001) HO_445004) HO_459001) HO_459004) HO_481001) HO_481004) HO513) HO520) HB,kb BK407 hb,kb BK408 hb,kb BK444 hb,kb BK458 hb,kb BK480 hb,kh HB hb⟩
       clear HO_445000 HO_445001 HO_445002 HO_445004 HO_459000 HO_459001 HO_459002 HO_459004 HO_481000 HO_481001 HO_481002 HO_481004 HO510 HO513 HO516 HO520 BK407 BK408 BK444 BK458 BK480 HB
       obtain ⟨HO_445000,HO_445001,HO_445002,HO_445004,HO_459000,HO_459001,HO_459002,HO_459004,HO_481000,HO_481001,HO_481002,HO_481004,HO510,HO513,HO516,HO520,HO530,HO533,HO536,HO540,BK407,BK408,BK444,BK458,BK480,HB⟩:=n_
       (try clear hb)
       (try clear hb2)
       (try clear hk)
       (try clear hi)
       (try clear ho0)
       (try clear ho1)
       (try clear ho2)
       (try clear ho3)
       refine hK.out _ _ ⟨ce BK407 0,ce BK407 1,ce BK407 2,ce BK407 3,ce BK407 4,ce BK408 0,ce BK408 1,ce BK408 2,ce BK408 3,ce BK408 4,ce BK408 5,ce BK408 6⟩ (fun hHeld=>?_)
       clear hK K
       refine nv 84 ?_
       refine pv 5 (some 79) 63 rfl rfl HT_ ?_
       refine pv 6 (some 85) 127 rfl rfl HT_ ?_
       refine pv 7 (some 86) 255 rfl rfl HT_ ?_
       refine ov 8 (some 14) 511 rfl rfl HT_ (fun K hK=>?_)
       refine box_step ?hg (N:=14) ?hd (cs:=#[.slice none 0 0,.slice none 0 0,.slice none 0 0,.int .i64 0,.slice none 0 0]) (t:=51) ?hr ?_;(case hd=>rfl);(case hg=>rfl);(case hr=>first | (go_simp;done) | (go_simp;rfl))
       intro gb542 hg w165 hbox hb
       have n_ : _∧_∧_∧_∧_∧_∧_∧_∧_∧_∧_∧_∧_∧_∧_∧_∧_∧_∧_∧_∧_∧_∧_∧_∧_∧_∧_∧_∧_∧_∧_∧_∧_∧_∧_∧_∧_∧_∧_:=⟨ka HO_445000 hb,ka HO_445001 hb,ka HO_445002 hb,ka HO_445004 hb,ka HO_459000 hb,ka HO_459001 hb,ka HO_459002 hb,ka HO_459004 hb,ka HO_481000 hb,ka HO_481001 hb,ka HO_481002 hb,ka HO_481004 hb,ka HO510 hb,ka HO513 hb,ka HO516 hb,ka HO520 hb,ka HO530 hb,ka HO533 hb,ka HO536 hb,ka HO540 hb,kb BK407 hb,kb BK408 hb,kb BK444 hb,kb BK458 hb,kb BK480 hb,kh HB hb,ak (hbox),kz HB hg,kz HB hg,nl BK407 hg,ng BK407 hg,nl BK408 hg,ng BK408 hg,nl BK444 hg,ng BK444 hg,nl BK458 hg,ng BK458 hg,nl BK480 hg,ng BK480 hg⟩
       clear HO_445000 HO_445001 HO_445002 HO_445004 HO_459000 HO_459001 HO_459002 HO_459004 HO_481000 HO_481001 HO_481002 HO_481004 HO510 HO513 HO516 HO520 HO530 HO533 HO536 HO540 BK407 BK408 BK444 BK458 BK480 HB hb hbox hg
       obtain ⟨HO_445000,HO_445001,HO_445002,HO_445004,HO_459000,HO_459001,HO_459002,HO_459004,HO_481000,HO_481001,HO_481002,HO_481004,HO510,HO513,HO516,HO520,HO530,HO533,HO536,HO540,BK407,BK408,BK444,BK458,BK480,HB,BK542,GW542,GE542,NB407_542,NB542_407,NB408_542,NB542_408,NB444_542,NB542_444,NB458_542,NB542_458,NB480_542,NB542_480⟩:=n_
       refine hK.out _ _ ⟨ce BK407 0,ce BK407 1,ce BK407 2,ce BK407 3,ce BK407 4,ce BK408 0,ce BK408 1,ce BK408 2,ce BK408 3,ce BK408 4,ce BK408 5,ce BK408 6⟩ (fun hHeld=>?_)
       clear hK K
       refine nv 14 ?_
       exact norm_ (by simp only [putAll,Act.put,List.setIfInBounds_toArray,List.set_cons_zero,List.set_cons_succ]) (hCont (.slice Ao160 t508.length co160,.slice Ao161 t511.length co161,.slice Ao162 t514.length co162,.slice Ao163 t518.length co163,v529,v532,v535,v539,gb542) _ ⟨hHeld,(rn HO510),(rn HO513),(rn HO516),(rn HO520),(rn HO530),(rn HO533),(rn HO536),(rn HO540),(rn HO_445000),(rn HO_445001),(rn HO_445002),(rn HO_445004),(rn HO_459000),(rn HO_459001),(rn HO_459002),(rn HO_459004),(rn HO_481000),(rn HO_481001),(rn HO_481002),(rn HO_481004),(rk BK407.out),(rk BK408.out),(rk BK444.out),(rk BK458.out),(rk BK480.out),(rk BK542.out),GW542.out,GE542.out,NB407_542.out,NB542_407.out,NB408_542.out,NB542_408.out,NB444_542.out,NB542_444.out,NB458_542.out,NB542_458.out,NB480_542.out,NB542_480.out,(rb6 GE407.out GE408.out GE444.out GE458.out GE480.out GE542.out HB.out)⟩)
      skip
      refine box_step ?hg (N:=14) ?hd (cs:=#[.slice none 0 0,.slice none 0 0,.slice none 0 0,.int .i64 0,.slice none 0 0]) (t:=51) ?hr ?_;(case hd=>rfl);(case hg=>rfl);(case hr=>first | (go_simp;done) | (go_simp;rfl))
      intro gb542 hg w160 hbox hb
      have n_ : _∧_∧_∧_∧_∧_∧_∧_∧_∧_∧_∧_∧_∧_∧_∧_∧_∧_∧_∧_∧_∧_∧_∧_∧_∧_∧_∧_∧_∧_∧_∧_∧_∧_∧_:=⟨ka HO_445000 hb,ka HO_445001 hb,ka HO_445002 hb,ka HO_445004 hb,ka HO_459000 hb,ka HO_459001 hb,ka HO_459002 hb,ka HO_459004 hb,ka HO_481000 hb,ka HO_481001 hb,ka HO_481002 hb,ka HO_481004 hb,ka HO510 hb,ka HO513 hb,ka HO516 hb,ka HO520 hb,kb BK407 hb,kb BK408 hb,kb BK444 hb,kb BK458 hb,kb BK480 hb,kh HB hb,ak (hbox),kz HB hg,kz HB hg,nl BK407 hg,ng BK407 hg,nl BK408 hg,ng BK408 hg,nl BK444 hg,ng BK444 hg,nl BK458 hg,ng BK458 hg,nl BK480 hg,ng BK480 hg⟩
      clear HO_445000 HO_445001 HO_445002 HO_445004 HO_459000 HO_459001 HO_459002 HO_459004 HO_481000 HO_481001 HO_481002 HO_481004 HO510 HO513 HO516 HO520 BK407 BK408 BK444 BK458 BK480 HB hb hbox hg
      obtain ⟨HO_445000,HO_445001,HO_445002,HO_445004,HO_459000,HO_459001,HO_459002,HO_459004,HO_481000,HO_481001,HO_481002,HO_481004,HO510,HO513,HO516,HO520,BK407,BK408,BK444,BK458,BK480,HB,BK542,GW542,GE542,NB407_542,NB542_407,NB408_542,NB542_408,NB444_542,NB542_444,NB458_542,NB542_458,NB480_542,NB542_480⟩:=n_
      obtain ⟨Ao161,co161,eo161⟩:=Kd.R_slice HO510.out
      (first | subst eo161 | obtain ⟨rfl,rfl⟩:=se eo161)
      obtain ⟨Ao162,co162,eo162⟩:=Kd.R_slice HO513.out
      (first | subst eo162 | obtain ⟨rfl,rfl⟩:=se eo162)
      obtain ⟨Ao163,co163,eo163⟩:=Kd.R_slice HO516.out
      (first | subst eo163 | obtain ⟨rfl,rfl⟩:=se eo163)
      obtain ⟨Ao164,co164,eo164⟩:=Kd.R_slice HO520.out
      (first | subst eo164 | obtain ⟨rfl,rfl⟩:=se eo164)
      refine hK.out _ _ ⟨ce BK407 0,ce BK407 1,ce BK407 2,ce BK407 3,ce BK407 4,ce BK408 0,ce BK408 1,ce BK408 2,ce BK408 3,ce BK408 4,ce BK408 5,ce BK408 6⟩ (fun hHeld=>?_)
      clear hK K
      refine nv 14 ?_
      refine ov 4 (some 84) 287 rfl rfl HT_ (fun K hK=>?_)
      refine gv Try.func29 #[.agg #[.slice Ao161 t508.length co161,.slice Ao162 t511.length co162,.slice Ao163 t514.length co163,.int .i64 t517,.slice Ao164 t518.length co164],.agg #[.int .i64 t521,.int .i64 t522,.int .i64 t523,.int .i64 t524,.int .i64 t525,.int .i64 t526,.int .i64 t527]] rfl rfl rfl ?_
      with_reducible refine (impl_Kept.calls kj94 _ _ t508 _ _ t511 _ _ t514 t517 _ _ t518 t521 t522 t523 t524 t525 t526 t527 t528 t531 t534 t537 t538 t541 _ ?side1 ?side2 ?side3 ?side4 ?side5 ?side6 ?side7 ?side8 A147.out).mono ?_
      (case side1=>exact rc (Kd.R_reads' HO510.out).2.2)
      (case side2=>exact (Kd.R_reads' HO510.out).2.1)
      (case side3=>exact rc (Kd.R_reads' HO513.out).2.2)
      (case side4=>exact (Kd.R_reads' HO513.out).2.1)
      (case side5=>exact rc (Kd.R_reads' HO516.out).2.2)
      (case side6=>exact (Kd.R_reads' HO516.out).2.1)
      (case side7=>exact rc (Kd.R_reads' HO520.out).2.2)
      (case side8=>exact (Kd.R_reads' HO520.out).2.1)
      rintro e w165 ⟨v529,v532,v535,v539,rfl,ho0,ho1,ho2,ho3,hb⟩
      refine ⟨_,rfl,?_⟩
      have n_ : _∧_∧_∧_∧_∧_∧_∧_∧_∧_∧_∧_∧_∧_∧_∧_∧_∧_∧_∧_∧_∧_∧_∧_∧_∧_∧_:=⟨ke HO_445000 ho0 hb,ak (Kd.R_mono (Kd.R_told (Kd.R_told (Kd.R_old (rr HO_445001.out) hb) (Kd.R_base ho1)) (Kd.R_base ho3)) (fun _ h_=>h_.1)),ke HO_445002 ho2 hb,ak (Kd.R_mono (Kd.R_told (Kd.R_told (Kd.R_old (rr HO_445004.out) hb) (Kd.R_base ho1)) (Kd.R_base ho3)) (fun _ h_=>h_.1)),ke HO_459000 ho0 hb,ak (Kd.R_mono (Kd.R_told (Kd.R_told (Kd.R_old (rr HO_459001.out) hb) (Kd.R_base ho1)) (Kd.R_base ho3)) (fun _ h_=>h_.1)),ke HO_459002 ho2 hb,ak (Kd.R_mono (Kd.R_told (Kd.R_told (Kd.R_old (rr HO_459004.out) hb) (Kd.R_base ho1)) (Kd.R_base ho3)) (fun _ h_=>h_.1)),ke HO_481000 ho0 hb,ak (Kd.R_mono (Kd.R_told (Kd.R_told (Kd.R_old (rr HO_481001.out) hb) (Kd.R_base ho1)) (Kd.R_base ho3)) (fun _ h_=>h_.1)),ke HO_481002 ho2 hb,ak (Kd.R_mono (Kd.R_told (Kd.R_told (Kd.R_old (rr HO_481004.out) hb) (Kd.R_base ho1)) (Kd.R_base ho3)) (fun _ h_=>h_.1)),ke HO510 ho0 hb,ak (Kd.R_mono (Kd.R_told (Kd.R_told (Kd.R_old (rr HO513.out) hb) (Kd.R_base ho1)) (Kd.R_base ho3)) (fun _ h_=>h_.1)),ke HO516 ho2 hb,ak (Kd.R_mono (Kd.R_told (Kd.R_told (Kd.R_old (rr HO520.out) hb) (Kd.R_base ho1)) (Kd.R_base ho3)) (fun _ h_=>h_.1)),kl (kn (kn (kn (kn ho0 HO_445000) HO_459000) HO_481000) HO510) HB,kl (kn (kn (kn (kn (kn (kn (kn (kn ho1 HO_445001) HO_445004) HO_459001) HO_459004) HO_481001) HO_481004) HO513) HO520) HB,kl (kn (kn (kn (kn ho2 HO_445002) HO_459002) HO_481002) HO516) HB,kl (kn (kn (kn (kn (kn (kn (kn (kn ho3 HO_445001) HO_445004) HO_459001) HO_459004) HO_481001) HO_481004) HO513) HO520) HB,kb BK407 hb,kb BK408 hb,kb BK444 hb,kb BK458 hb,kb BK480 hb,kb BK542 hb,kh HB hb⟩
      clear HO_445000 HO_445001 HO_445002 HO_445004 HO_459000 HO_459001 HO_459002 HO_459004 HO_481000 HO_481001 HO_481002 HO_481004 HO510 HO513 HO516 HO520 BK407 BK408 BK444 BK458 BK480 BK542 HB
      obtain ⟨HO_445000,HO_445001,HO_445002,HO_445004,HO_459000,HO_459001,HO_459002,HO_459004,HO_481000,HO_481001,HO_481002,HO_481004,HO510,HO513,HO516,HO520,HO530,HO533,HO536,HO540,BK407,BK408,BK444,BK458,BK480,BK542,HB⟩:=n_
      (try clear hb)
      (try clear hb2)
      (try clear hk)
      (try clear hi)
      (try clear ho0)
      (try clear ho1)
      (try clear ho2)
      (try clear ho3)
      refine hK.out _ _ ⟨ce BK407 0,ce BK407 1,ce BK407 2,ce BK407 3,ce BK407 4,ce BK408 0,ce BK408 1,ce BK408 2,ce BK408 3,ce BK408 4,ce BK408 5,ce BK408 6⟩ (fun hHeld=>?_)
      clear hK K
      refine nv 84 ?_
      refine pv 5 (some 79) 319 rfl rfl HT_ ?_
      refine pv 6 (some 85) 383 rfl rfl HT_ ?_
      refine pv 7 (some 86) 511 rfl rfl HT_ ?_
      exact norm_ (by simp only [putAll,Act.put,List.setIfInBounds_toArray,List.set_cons_zero,List.set_cons_succ]) (hCont (.slice Ao161 t508.length co161,.slice Ao162 t511.length co162,.slice Ao163 t514.length co163,.slice Ao164 t518.length co164,v529,v532,v535,v539,gb542) _ ⟨hHeld,(rn HO510),(rn HO513),(rn HO516),(rn HO520),(rn HO530),(rn HO533),(rn HO536),(rn HO540),(rn HO_445000),(rn HO_445001),(rn HO_445002),(rn HO_445004),(rn HO_459000),(rn HO_459001),(rn HO_459002),(rn HO_459004),(rn HO_481000),(rn HO_481001),(rn HO_481002),(rn HO_481004),(rk BK407.out),(rk BK408.out),(rk BK444.out),(rk BK458.out),(rk BK480.out),(rk BK542.out),GW542.out,GE542.out,NB407_542.out,NB542_407.out,NB408_542.out,NB542_408.out,NB444_542.out,NB542_444.out,NB458_542.out,NB542_458.out,NB480_542.out,NB542_480.out,(rb6 GE407.out GE408.out GE444.out GE458.out GE480.out GE542.out HB.out)⟩)
     rintro ⟨v509,v512,v515,v519,v529,v532,v535,v539,gb542⟩ w166 ⟨hS_,h0_,h1_,h2_,h3_,h4_,h5_,h6_,h7_,h8_,h9_,h10_,h11_,h12_,h13_,h14_,h15_,h16_,h17_,h18_,h19_,h20_,h21_,h22_,h23_,h24_,h25_,h26_,h27_,h28_,h29_,h30_,h31_,h32_,h33_,h34_,h35_,h36_,h37_,h38_⟩
     have n0_ : Aside0 (Kd.R k134 134 w166 w.heap.size (fun k_=>some k_ ≠ (v529 : Value).ownBlock∧some k_ ≠ (.slice Ao32 t430.length co32 : Value).ownBlock∧some k_ ≠ (.slice Ao45 t497.length co45 : Value).ownBlock∧some k_ ≠ (.slice Ao59 t466.length co59 : Value).ownBlock) v509 t508):=⟨h0_⟩
     have n1_ : Aside0 (Kd.R (Kd.int .i64) 3 w166 w.heap.size (fun k_=>some k_ ≠ (v519 : Value).ownBlock∧some k_ ≠ (v532 : Value).ownBlock∧some k_ ≠ (v539 : Value).ownBlock∧some k_ ≠ (.slice Ao34 t433.length co34 : Value).ownBlock∧some k_ ≠ (.slice Ao39 t440.length co39 : Value).ownBlock∧some k_ ≠ (.slice Ao50 t498.length co50 : Value).ownBlock∧some k_ ≠ (.slice Ao52 t500.length co52 : Value).ownBlock∧some k_ ≠ (.slice Ao61 t469.length co61 : Value).ownBlock∧some k_ ≠ (.slice Ao66 t476.length co66 : Value).ownBlock) v512 t511):=⟨h1_⟩
     have n2_ : Aside0 (Kd.R k127 127 w166 w.heap.size (fun k_=>some k_ ≠ (v535 : Value).ownBlock∧some k_ ≠ (.slice Ao36 t436.length co36 : Value).ownBlock∧some k_ ≠ (.slice Ao51 t499.length co51 : Value).ownBlock∧some k_ ≠ (.slice Ao63 t472.length co63 : Value).ownBlock) v515 t514):=⟨h2_⟩
     have n3_ : Aside0 (Kd.R (Kd.int .i64) 3 w166 w.heap.size (fun k_=>some k_ ≠ (v512 : Value).ownBlock∧some k_ ≠ (v532 : Value).ownBlock∧some k_ ≠ (v539 : Value).ownBlock∧some k_ ≠ (.slice Ao34 t433.length co34 : Value).ownBlock∧some k_ ≠ (.slice Ao39 t440.length co39 : Value).ownBlock∧some k_ ≠ (.slice Ao50 t498.length co50 : Value).ownBlock∧some k_ ≠ (.slice Ao52 t500.length co52 : Value).ownBlock∧some k_ ≠ (.slice Ao61 t469.length co61 : Value).ownBlock∧some k_ ≠ (.slice Ao66 t476.length co66 : Value).ownBlock) v519 t518):=⟨h3_⟩
     have n4_ : Aside0 (Kd.R k134 134 w166 w.heap.size (fun k_=>some k_ ≠ (v509 : Value).ownBlock∧some k_ ≠ (.slice Ao32 t430.length co32 : Value).ownBlock∧some k_ ≠ (.slice Ao45 t497.length co45 : Value).ownBlock∧some k_ ≠ (.slice Ao59 t466.length co59 : Value).ownBlock) v529 t528):=⟨h4_⟩
     have n5_ : Aside0 (Kd.R (Kd.int .i64) 3 w166 w.heap.size (fun k_=>some k_ ≠ (v512 : Value).ownBlock∧some k_ ≠ (v519 : Value).ownBlock∧some k_ ≠ (v539 : Value).ownBlock∧some k_ ≠ (.slice Ao34 t433.length co34 : Value).ownBlock∧some k_ ≠ (.slice Ao39 t440.length co39 : Value).ownBlock∧some k_ ≠ (.slice Ao50 t498.length co50 : Value).ownBlock∧some k_ ≠ (.slice Ao52 t500.length co52 : Value).ownBlock∧some k_ ≠ (.slice Ao61 t469.length co61 : Value).ownBlock∧some k_ ≠ (.slice Ao66 t476.length co66 : Value).ownBlock) v532 t531):=⟨h5_⟩
     have n6_ : Aside0 (Kd.R k127 127 w166 w.heap.size (fun k_=>some k_ ≠ (v515 : Value).ownBlock∧some k_ ≠ (.slice Ao36 t436.length co36 : Value).ownBlock∧some k_ ≠ (.slice Ao51 t499.length co51 : Value).ownBlock∧some k_ ≠ (.slice Ao63 t472.length co63 : Value).ownBlock) v535 t534):=⟨h6_⟩
     have n7_ : Aside0 (Kd.R (Kd.int .i64) 3 w166 w.heap.size (fun k_=>some k_ ≠ (v512 : Value).ownBlock∧some k_ ≠ (v519 : Value).ownBlock∧some k_ ≠ (v532 : Value).ownBlock∧some k_ ≠ (.slice Ao34 t433.length co34 : Value).ownBlock∧some k_ ≠ (.slice Ao39 t440.length co39 : Value).ownBlock∧some k_ ≠ (.slice Ao50 t498.length co50 : Value).ownBlock∧some k_ ≠ (.slice Ao52 t500.length co52 : Value).ownBlock∧some k_ ≠ (.slice Ao61 t469.length co61 : Value).ownBlock∧some k_ ≠ (.slice Ao66 t476.length co66 : Value).ownBlock) v539 t538):=⟨h7_⟩
     have n8_ : Aside0 (Kd.R k134 134 w166 w.heap.size (fun k_=>some k_ ≠ (v509 : Value).ownBlock∧some k_ ≠ (v529 : Value).ownBlock∧some k_ ≠ (.slice Ao45 t497.length co45 : Value).ownBlock∧some k_ ≠ (.slice Ao59 t466.length co59 : Value).ownBlock) (.slice Ao32 t430.length co32) t430):=⟨h8_⟩
     have n9_ : Aside0 (Kd.R (Kd.int .i64) 3 w166 w.heap.size (fun k_=>some k_ ≠ (v512 : Value).ownBlock∧some k_ ≠ (v519 : Value).ownBlock∧some k_ ≠ (v532 : Value).ownBlock∧some k_ ≠ (v539 : Value).ownBlock∧some k_ ≠ (.slice Ao39 t440.length co39 : Value).ownBlock∧some k_ ≠ (.slice Ao50 t498.length co50 : Value).ownBlock∧some k_ ≠ (.slice Ao52 t500.length co52 : Value).ownBlock∧some k_ ≠ (.slice Ao61 t469.length co61 : Value).ownBlock∧some k_ ≠ (.slice Ao66 t476.length co66 : Value).ownBlock) (.slice Ao34 t433.length co34) t433):=⟨h9_⟩
     have n10_ : Aside0 (Kd.R k127 127 w166 w.heap.size (fun k_=>some k_ ≠ (v515 : Value).ownBlock∧some k_ ≠ (v535 : Value).ownBlock∧some k_ ≠ (.slice Ao51 t499.length co51 : Value).ownBlock∧some k_ ≠ (.slice Ao63 t472.length co63 : Value).ownBlock) (.slice Ao36 t436.length co36) t436):=⟨h10_⟩
     have n11_ : Aside0 (Kd.R (Kd.int .i64) 3 w166 w.heap.size (fun k_=>some k_ ≠ (v512 : Value).ownBlock∧some k_ ≠ (v519 : Value).ownBlock∧some k_ ≠ (v532 : Value).ownBlock∧some k_ ≠ (v539 : Value).ownBlock∧some k_ ≠ (.slice Ao34 t433.length co34 : Value).ownBlock∧some k_ ≠ (.slice Ao50 t498.length co50 : Value).ownBlock∧some k_ ≠ (.slice Ao52 t500.length co52 : Value).ownBlock∧some k_ ≠ (.slice Ao61 t469.length co61 : Value).ownBlock∧some k_ ≠ (.slice Ao66 t476.length co66 : Value).ownBlock) (.slice Ao39 t440.length co39) t440):=⟨h11_⟩
     have n12_ : Aside0 (Kd.R k134 134 w166 w.heap.size (fun k_=>some k_ ≠ (v509 : Value).ownBlock∧some k_ ≠ (v529 : Value).ownBlock∧some k_ ≠ (.slice Ao32 t430.length co32 : Value).ownBlock∧some k_ ≠ (.slice Ao59 t466.length co59 : Value).ownBlock) (.slice Ao45 t497.length co45) t497):=⟨h12_⟩
     have n13_ : Aside0 (Kd.R (Kd.int .i64) 3 w166 w.heap.size (fun k_=>some k_ ≠ (v512 : Value).ownBlock∧some k_ ≠ (v519 : Value).ownBlock∧some k_ ≠ (v532 : Value).ownBlock∧some k_ ≠ (v539 : Value).ownBlock∧some k_ ≠ (.slice Ao34 t433.length co34 : Value).ownBlock∧some k_ ≠ (.slice Ao39 t440.length co39 : Value).ownBlock∧some k_ ≠ (.slice Ao52 t500.length co52 : Value).ownBlock∧some k_ ≠ (.slice Ao61 t469.length co61 : Value).ownBlock∧some k_ ≠ (.slice Ao66 t476.length co66 : Value).ownBlock) (.slice Ao50 t498.length co50) t498):=⟨h13_⟩
     have n14_ : Aside0 (Kd.R k127 127 w166 w.heap.size (fun k_=>some k_ ≠ (v515 : Value).ownBlock∧some k_ ≠ (v535 : Value).ownBlock∧some k_ ≠ (.slice Ao36 t436.length co36 : Value).ownBlock∧some k_ ≠ (.slice Ao63 t472.length co63 : Value).ownBlock) (.slice Ao51 t499.length co51) t499):=⟨h14_⟩
     have n15_ : Aside0 (Kd.R (Kd.int .i64) 3 w166 w.heap.size (fun k_=>some k_ ≠ (v512 : Value).ownBlock∧some k_ ≠ (v519 : Value).ownBlock∧some k_ ≠ (v532 : Value).ownBlock∧some k_ ≠ (v539 : Value).ownBlock∧some k_ ≠ (.slice Ao34 t433.length co34 : Value).ownBlock∧some k_ ≠ (.slice Ao39 t440.length co39 : Value).ownBlock∧some k_ ≠ (.slice Ao50 t498.length co50 : Value).ownBlock∧some k_ ≠ (.slice Ao61 t469.length co61 : Value).ownBlock∧some k_ ≠ (.slice Ao66 t476.length co66 : Value).ownBlock) (.slice Ao52 t500.length co52) t500):=⟨h15_⟩
     have n16_ : Aside0 (Kd.R k134 134 w166 w.heap.size (fun k_=>some k_ ≠ (v509 : Value).ownBlock∧some k_ ≠ (v529 : Value).ownBlock∧some k_ ≠ (.slice Ao32 t430.length co32 : Value).ownBlock∧some k_ ≠ (.slice Ao45 t497.length co45 : Value).ownBlock) (.slice Ao59 t466.length co59) t503):=⟨h16_⟩
     have n17_ : Aside0 (Kd.R (Kd.int .i64) 3 w166 w.heap.size (fun k_=>some k_ ≠ (v512 : Value).ownBlock∧some k_ ≠ (v519 : Value).ownBlock∧some k_ ≠ (v532 : Value).ownBlock∧some k_ ≠ (v539 : Value).ownBlock∧some k_ ≠ (.slice Ao34 t433.length co34 : Value).ownBlock∧some k_ ≠ (.slice Ao39 t440.length co39 : Value).ownBlock∧some k_ ≠ (.slice Ao50 t498.length co50 : Value).ownBlock∧some k_ ≠ (.slice Ao52 t500.length co52 : Value).ownBlock∧some k_ ≠ (.slice Ao66 t476.length co66 : Value).ownBlock) (.slice Ao61 t469.length co61) t504):=⟨h17_⟩
     have n18_ : Aside0 (Kd.R k127 127 w166 w.heap.size (fun k_=>some k_ ≠ (v515 : Value).ownBlock∧some k_ ≠ (v535 : Value).ownBlock∧some k_ ≠ (.slice Ao36 t436.length co36 : Value).ownBlock∧some k_ ≠ (.slice Ao51 t499.length co51 : Value).ownBlock) (.slice Ao63 t472.length co63) t505):=⟨h18_⟩
     have n19_ : Aside0 (Kd.R (Kd.int .i64) 3 w166 w.heap.size (fun k_=>some k_ ≠ (v512 : Value).ownBlock∧some k_ ≠ (v519 : Value).ownBlock∧some k_ ≠ (v532 : Value).ownBlock∧some k_ ≠ (v539 : Value).ownBlock∧some k_ ≠ (.slice Ao34 t433.length co34 : Value).ownBlock∧some k_ ≠ (.slice Ao39 t440.length co39 : Value).ownBlock∧some k_ ≠ (.slice Ao50 t498.length co50 : Value).ownBlock∧some k_ ≠ (.slice Ao52 t500.length co52 : Value).ownBlock∧some k_ ≠ (.slice Ao61 t469.length co61 : Value).ownBlock) (.slice Ao66 t476.length co66) t506):=⟨h19_⟩
     have n20_ : Aside0 (w166.heap[gb407]? = some (.cells #[.slice A0_0 l0_0.length c0_0,.slice A0_1 l0_1.length c0_1,.slice A0_2 l0_2.length c0_2,.int .i64 a0_3,.slice A0_4 l0_4.length c0_4] 45 (0,0))):=⟨h20_⟩
     have n21_ : Aside0 (w166.heap[gb408]? = some (.cells #[.int .i64 a1_0,.int .i64 a1_1,.int .i64 a1_2,.int .i64 a1_3,.int .i64 a1_4,.int .i64 a1_5,.int .i64 a1_6] 107 (0,0))):=⟨h21_⟩
     have n22_ : Aside0 (w166.heap[gb444]? = some (.cells #[.slice Ao32 t430.length co32,.slice Ao34 t433.length co34,.slice Ao36 t436.length co36,.int .i64 t439,.slice Ao39 t440.length co39] 51 (0,0))):=⟨h22_⟩
     have n23_ : Aside0 (w166.heap[gb458]? = some (.cells #[.slice Ao45 t497.length co45,.slice Ao50 t498.length co50,.slice Ao51 t499.length co51,.int .i64 t454,.slice Ao52 t500.length co52] 51 (0,0))):=⟨h23_⟩
     have n24_ : Aside0 (w166.heap[gb480]? = some (.cells #[.slice Ao59 t466.length co59,.slice Ao61 t469.length co61,.slice Ao63 t472.length co63,.int .i64 t475,.slice Ao66 t476.length co66] 51 (0,0))):=⟨h24_⟩
     have n25_ : Aside0 (w166.heap[gb542]? = some (.cells #[.slice none 0 0,.slice none 0 0,.slice none 0 0,.int .i64 0,.slice none 0 0] 51 (0,0))):=⟨h25_⟩
     have n26_ : Aside0 (w.heap.size ≤ gb542):=⟨h26_⟩
     have n27_ : Aside0 (w.heap.size ≤ gb542):=⟨h27_⟩
     have n28_ : Aside0 (gb407 ≠ gb542):=⟨h28_⟩
     have n29_ : Aside0 (gb542 ≠ gb407):=⟨h29_⟩
     have n30_ : Aside0 (gb408 ≠ gb542):=⟨h30_⟩
     have n31_ : Aside0 (gb542 ≠ gb408):=⟨h31_⟩
     have n32_ : Aside0 (gb444 ≠ gb542):=⟨h32_⟩
     have n33_ : Aside0 (gb542 ≠ gb444):=⟨h33_⟩
     have n34_ : Aside0 (gb458 ≠ gb542):=⟨h34_⟩
     have n35_ : Aside0 (gb542 ≠ gb458):=⟨h35_⟩
     have n36_ : Aside0 (gb480 ≠ gb542):=⟨h36_⟩
     have n37_ : Aside0 (gb542 ≠ gb480):=⟨h37_⟩
     have n38_ : Aside0 (Below w.heap.size w w166):=⟨h38_⟩
     clear HO_445000 HO_445001 HO_445002 HO_445004 HO_459000 HO_459001 HO_459002 HO_459004 HO_481000 HO_481001 HO_481002 HO_481004 BK407 BK408 BK444 BK458 BK480 HB h0_ h1_ h2_ h3_ h4_ h5_ h6_ h7_ h8_ h9_ h10_ h11_ h12_ h13_ h14_ h15_ h16_ h17_ h18_ h19_ h20_ h21_ h22_ h23_ h24_ h25_ h26_ h27_ h28_ h29_ h30_ h31_ h32_ h33_ h34_ h35_ h36_ h37_ h38_
     have HO510:=n0_
     have HO513:=n1_
     have HO516:=n2_
     have HO520:=n3_
     have HO530:=n4_
     have HO533:=n5_
     have HO536:=n6_
     have HO540:=n7_
     have HO_445000:=n8_
     have HO_445001:=n9_
     have HO_445002:=n10_
     have HO_445004:=n11_
     have HO_459000:=n12_
     have HO_459001:=n13_
     have HO_459002:=n14_
     have HO_459004:=n15_
     have HO_481000:=n16_
     have HO_481001:=n17_
     have HO_481002:=n18_
     have HO_481004:=n19_
     have BK407:=n20_
     have BK408:=n21_
     have BK444:=n22_
     have BK458:=n23_
     have BK480:=n24_
     have BK542:=n25_
     have GW542:=n26_
     have GE542:=n27_
     have NB407_542:=n28_
     have NB542_407:=n29_
     have NB408_542:=n30_
     have NB542_408:=n31_
     have NB444_542:=n32_
     have NB542_444:=n33_
     have NB458_542:=n34_
     have NB542_458:=n35_
     have NB480_542:=n36_
     have NB542_480:=n37_
     have HB:=n38_
     clear n0_ n1_ n2_ n3_ n4_ n5_ n6_ n7_ n8_ n9_ n10_ n11_ n12_ n13_ n14_ n15_ n16_ n17_ n18_ n19_ n20_ n21_ n22_ n23_ n24_ n25_ n26_ n27_ n28_ n29_ n30_ n31_ n32_ n33_ n34_ n35_ n36_ n37_ n38_
     have hHeld : w166.cell? ⟨gb407,0,none⟩ = some (.slice A0_0 l0_0.length c0_0)∧w166.cell? ⟨gb407,1,none⟩ = some (.slice A0_1 l0_1.length c0_1)∧w166.cell? ⟨gb407,2,none⟩ = some (.slice A0_2 l0_2.length c0_2)∧w166.cell? ⟨gb407,3,none⟩ = some (.int .i64 a0_3)∧w166.cell? ⟨gb407,4,none⟩ = some (.slice A0_4 l0_4.length c0_4)∧w166.cell? ⟨gb408,0,none⟩ = some (.int .i64 a1_0)∧w166.cell? ⟨gb408,1,none⟩ = some (.int .i64 a1_1)∧w166.cell? ⟨gb408,2,none⟩ = some (.int .i64 a1_2)∧w166.cell? ⟨gb408,3,none⟩ = some (.int .i64 a1_3)∧w166.cell? ⟨gb408,4,none⟩ = some (.int .i64 a1_4)∧w166.cell? ⟨gb408,5,none⟩ = some (.int .i64 a1_5)∧w166.cell? ⟨gb408,6,none⟩ = some (.int .i64 a1_6):=hS_
     obtain ⟨Ao167,co167,eo167⟩:=Kd.R_slice HO530.out
     (first | subst eo167 | obtain ⟨rfl,rfl⟩:=se eo167)
     obtain ⟨Ao169,co169,eo169⟩:=Kd.R_slice HO533.out
     (first | subst eo169 | obtain ⟨rfl,rfl⟩:=se eo169)
     obtain ⟨Ao171,co171,eo171⟩:=Kd.R_slice HO536.out
     (first | subst eo171 | obtain ⟨rfl,rfl⟩:=se eo171)
     obtain ⟨Ao174,co174,eo174⟩:=Kd.R_slice HO540.out
     (first | subst eo174 | obtain ⟨rfl,rfl⟩:=se eo174)
     refine norm_ (a':=?_) ?_ ?_
     rotate_left
     ·simp only [putAll,Act.put,List.setIfInBounds_toArray,List.set_cons_zero,List.set_cons_succ]
      rfl
     refine ov 9 none 1023 rfl rfl HT_ (fun K hK=>?_)
     have hs168 : w166.cell? ⟨gb542,0,none⟩ = some (.slice none 0 0):=ce BK542 0
     have hfs168:=blk_frozen BK542.out 0
     have hns168_0:=NB407_542.out
     have hns168_1:=NB408_542.out
     have hns168_2:=NB444_542.out
     have hns168_3:=NB458_542.out
     have hns168_4:=NB480_542.out
     have hms168_0:=NB542_407.out
     have hms168_1:=NB542_408.out
     have hms168_2:=NB542_444.out
     have hms168_3:=NB542_458.out
     have hms168_4:=NB542_480.out
     have hs170 : w166.cell? ⟨gb542,1,none⟩ = some (.slice none 0 0):=ce BK542 1
     have hfs170:=blk_frozen BK542.out 1
     have hns170_0:=NB407_542.out
     have hns170_1:=NB408_542.out
     have hns170_2:=NB444_542.out
     have hns170_3:=NB458_542.out
     have hns170_4:=NB480_542.out
     have hms170_0:=NB542_407.out
     have hms170_1:=NB542_408.out
     have hms170_2:=NB542_444.out
     have hms170_3:=NB542_458.out
     have hms170_4:=NB542_480.out
     have hs172 : w166.cell? ⟨gb542,2,none⟩ = some (.slice none 0 0):=ce BK542 2
     have hfs172:=blk_frozen BK542.out 2
     have hns172_0:=NB407_542.out
     have hns172_1:=NB408_542.out
     have hns172_2:=NB444_542.out
     have hns172_3:=NB458_542.out
     have hns172_4:=NB480_542.out
     have hms172_0:=NB542_407.out
     have hms172_1:=NB542_408.out
     have hms172_2:=NB542_444.out
     have hms172_3:=NB542_458.out
     have hms172_4:=NB542_480.out
     have hs173 : w166.cell? ⟨gb542,3,none⟩ = some (.int .i64 0):=ce BK542 3
     have hfs173:=blk_frozen BK542.out 3
     have hns173_0:=NB407_542.out
     have hns173_1:=NB408_542.out
     have hns173_2:=NB444_542.out
     have hns173_3:=NB458_542.out
     have hns173_4:=NB480_542.out
     have hms173_0:=NB542_407.out
     have hms173_1:=NB542_408.out
     have hms173_2:=NB542_444.out
     have hms173_3:=NB542_458.out
     have hms173_4:=NB542_480.out
     have hs175 : w166.cell? ⟨gb542,4,none⟩ = some (.slice none 0 0):=ce BK542 4
     have hfs175:=blk_frozen BK542.out 4
     have hns175_0:=NB407_542.out
     have hns175_1:=NB408_542.out
     have hns175_2:=NB444_542.out
     have hns175_3:=NB458_542.out
     have hns175_4:=NB480_542.out
     have hms175_0:=NB542_407.out
     have hms175_1:=NB542_408.out
     have hms175_2:=NB542_444.out
     have hms175_3:=NB542_458.out
     have hms175_4:=NB542_480.out
     refine skip_ (w1:=?_) (by rfl) rfl ?_ ?_
     rotate_left
     ·go_simp
      rfl
     refine hK.out _ _ ⟨((cell_far (p:=⟨gb542,_,none⟩) NB407_542.out _).trans (((cell_far (p:=⟨gb542,_,none⟩) NB407_542.out _).trans (((cell_far (p:=⟨gb542,_,none⟩) NB407_542.out _).trans (((cell_far (p:=⟨gb542,_,none⟩) NB407_542.out _).trans (((cell_far (p:=⟨gb542,_,none⟩) NB407_542.out _).trans (hHeld.1)))))))))),((cell_far (p:=⟨gb542,_,none⟩) NB407_542.out _).trans (((cell_far (p:=⟨gb542,_,none⟩) NB407_542.out _).trans (((cell_far (p:=⟨gb542,_,none⟩) NB407_542.out _).trans (((cell_far (p:=⟨gb542,_,none⟩) NB407_542.out _).trans (((cell_far (p:=⟨gb542,_,none⟩) NB407_542.out _).trans (hHeld.2.1)))))))))),((cell_far (p:=⟨gb542,_,none⟩) NB407_542.out _).trans (((cell_far (p:=⟨gb542,_,none⟩) NB407_542.out _).trans (((cell_far (p:=⟨gb542,_,none⟩) NB407_542.out _).trans (((cell_far (p:=⟨gb542,_,none⟩) NB407_542.out _).trans (((cell_far (p:=⟨gb542,_,none⟩) NB407_542.out _).trans (hHeld.2.2.1)))))))))),((cell_far (p:=⟨gb542,_,none⟩) NB407_542.out _).trans (((cell_far (p:=⟨gb542,_,none⟩) NB407_542.out _).trans (((cell_far (p:=⟨gb542,_,none⟩) NB407_542.out _).trans (((cell_far (p:=⟨gb542,_,none⟩) NB407_542.out _).trans (((cell_far (p:=⟨gb542,_,none⟩) NB407_542.out _).trans (hHeld.2.2.2.1)))))))))),((cell_far (p:=⟨gb542,_,none⟩) NB407_542.out _).trans (((cell_far (p:=⟨gb542,_,none⟩) NB407_542.out _).trans (((cell_far (p:=⟨gb542,_,none⟩) NB407_542.out _).trans (((cell_far (p:=⟨gb542,_,none⟩) NB407_542.out _).trans (((cell_far (p:=⟨gb542,_,none⟩) NB407_542.out _).trans (hHeld.2.2.2.2.1)))))))))),((cell_far (p:=⟨gb542,_,none⟩) NB408_542.out _).trans (((cell_far (p:=⟨gb542,_,none⟩) NB408_542.out _).trans (((cell_far (p:=⟨gb542,_,none⟩) NB408_542.out _).trans (((cell_far (p:=⟨gb542,_,none⟩) NB408_542.out _).trans (((cell_far (p:=⟨gb542,_,none⟩) NB408_542.out _).trans (hHeld.2.2.2.2.2.1)))))))))),((cell_far (p:=⟨gb542,_,none⟩) NB408_542.out _).trans (((cell_far (p:=⟨gb542,_,none⟩) NB408_542.out _).trans (((cell_far (p:=⟨gb542,_,none⟩) NB408_542.out _).trans (((cell_far (p:=⟨gb542,_,none⟩) NB408_542.out _).trans (((cell_far (p:=⟨gb542,_,none⟩) NB408_542.out _).trans (hHeld.2.2.2.2.2.2.1)))))))))),((cell_far (p:=⟨gb542,_,none⟩) NB408_542.out _).trans (((cell_far (p:=⟨gb542,_,none⟩) NB408_542.out _).trans (((cell_far (p:=⟨gb542,_,none⟩) NB408_542.out _).trans (((cell_far (p:=⟨gb542,_,none⟩) NB408_542.out _).trans (((cell_far (p:=⟨gb542,_,none⟩) NB408_542.out _).trans (hHeld.2.2.2.2.2.2.2.1)))))))))),((cell_far (p:=⟨gb542,_,none⟩) NB408_542.out _).trans (((cell_far (p:=⟨gb542,_,none⟩) NB408_542.out _).trans (((cell_far (p:=⟨gb542,_,none⟩) NB408_542.out _).trans (((cell_far (p:=⟨gb542,_,none⟩) NB408_542.out _).trans (((cell_far (p:=⟨gb542,_,none⟩) NB408_542.out _).trans (hHeld.2.2.2.2.2.2.2.2.1)))))))))),((cell_far (p:=⟨gb542,_,none⟩) NB408_542.out _).trans (((cell_far (p:=⟨gb542,_,none⟩) NB408_542.out _).trans (((cell_far (p:=⟨gb542,_,none⟩) NB408_542.out _).trans (((cell_far (p:=⟨gb542,_,none⟩) NB408_542.out _).trans (((cell_far (p:=⟨gb542,_,none⟩) NB408_542.out _).trans (hHeld.2.2.2.2.2.2.2.2.2.1)))))))))),((cell_far (p:=⟨gb542,_,none⟩) NB408_542.out _).trans (((cell_far (p:=⟨gb542,_,none⟩) NB408_542.out _).trans (((cell_far (p:=⟨gb542,_,none⟩) NB408_542.out _).trans (((cell_far (p:=⟨gb542,_,none⟩) NB408_542.out _).trans (((cell_far (p:=⟨gb542,_,none⟩) NB408_542.out _).trans (hHeld.2.2.2.2.2.2.2.2.2.2.1)))))))))),((cell_far (p:=⟨gb542,_,none⟩) NB408_542.out _).trans (((cell_far (p:=⟨gb542,_,none⟩) NB408_542.out _).trans (((cell_far (p:=⟨gb542,_,none⟩) NB408_542.out _).trans (((cell_far (p:=⟨gb542,_,none⟩) NB408_542.out _).trans (((cell_far (p:=⟨gb542,_,none⟩) NB408_542.out _).trans (hHeld.2.2.2.2.2.2.2.2.2.2.2))))))))))⟩ (fun hHeld=>?_)
     clear hK K
     refine pv 10 (some 15) 2047 rfl rfl HT_ ?_
     refine done_ (done_of HT_.out (by kernel_rfl)) ?_
     go_upto_region 25 with (fail)
     go_cut [95] (fun v95 wc=>∃ (kq : Nat) (x95_147 : Bool),v95 = .bool x95_147∧Aside0 (laws_FnExactKept.j2 kq t502 x95_147 t503 t504 t505 t475 t506 = some true)∧Aside0 (kq ≤ kj94)∧Aside0 (Kd.R k134 134 wc w.heap.size (fun k_=>some k_ ≠ ((.slice Ao45 t497.length co45) : Value).ownBlock∧some k_ ≠ ((.slice Ao59 t466.length co59) : Value).ownBlock∧some k_ ≠ ((.slice Ao167 t528.length co167) : Value).ownBlock) (.slice Ao32 t430.length co32) t430)∧Aside0 (Kd.R (Kd.int .i64) 3 wc w.heap.size (fun k_=>some k_ ≠ ((.slice Ao39 t440.length co39) : Value).ownBlock∧some k_ ≠ ((.slice Ao50 t498.length co50) : Value).ownBlock∧some k_ ≠ ((.slice Ao52 t500.length co52) : Value).ownBlock∧some k_ ≠ ((.slice Ao61 t469.length co61) : Value).ownBlock∧some k_ ≠ ((.slice Ao66 t476.length co66) : Value).ownBlock∧some k_ ≠ ((.slice Ao169 t531.length co169) : Value).ownBlock∧some k_ ≠ ((.slice Ao174 t538.length co174) : Value).ownBlock) (.slice Ao34 t433.length co34) t433)∧Aside0 (Kd.R k127 127 wc w.heap.size (fun k_=>some k_ ≠ ((.slice Ao51 t499.length co51) : Value).ownBlock∧some k_ ≠ ((.slice Ao63 t472.length co63) : Value).ownBlock∧some k_ ≠ ((.slice Ao171 t534.length co171) : Value).ownBlock) (.slice Ao36 t436.length co36) t436)∧Aside0 (Kd.R (Kd.int .i64) 3 wc w.heap.size (fun k_=>some k_ ≠ ((.slice Ao34 t433.length co34) : Value).ownBlock∧some k_ ≠ ((.slice Ao50 t498.length co50) : Value).ownBlock∧some k_ ≠ ((.slice Ao52 t500.length co52) : Value).ownBlock∧some k_ ≠ ((.slice Ao61 t469.length co61) : Value).ownBlock∧some k_ ≠ ((.slice Ao66 t476.length co66) : Value).ownBlock∧some k_ ≠ ((.slice Ao169 t531.length co169) : Value).ownBlock∧some k_ ≠ ((.slice Ao174 t538.length co174) : Value).ownBlock) (.slice Ao39 t440.length co39) t440)∧Aside0 (Kd.R k134 134 wc w.heap.size (fun k_=>some k_ ≠ ((.slice Ao32 t430.length co32) : Value).ownBlock∧some k_ ≠ ((.slice Ao59 t466.length co59) : Value).ownBlock∧some k_ ≠ ((.slice Ao167 t528.length co167) : Value).ownBlock) (.slice Ao45 t497.length co45) t497)∧Aside0 (Kd.R (Kd.int .i64) 3 wc w.heap.size (fun k_=>some k_ ≠ ((.slice Ao34 t433.length co34) : Value).ownBlock∧some k_ ≠ ((.slice Ao39 t440.length co39) : Value).ownBlock∧some k_ ≠ ((.slice Ao52 t500.length co52) : Value).ownBlock∧some k_ ≠ ((.slice Ao61 t469.length co61) : Value).ownBlock∧some k_ ≠ ((.slice Ao66 t476.length co66) : Value).ownBlock∧some k_ ≠ ((.slice Ao169 t531.length co169) : Value).ownBlock∧some k_ ≠ ((.slice Ao174 t538.length co174) : Value).ownBlock) (.slice Ao50 t498.length co50) t498)∧Aside0 (Kd.R k127 127 wc w.heap.size (fun k_=>some k_ ≠ ((.slice Ao36 t436.length co36) : Value).ownBlock∧some k_ ≠ ((.slice Ao63 t472.length co63) : Value).ownBlock∧some k_ ≠ ((.slice Ao171 t534.length co171) : Value).ownBlock) (.slice Ao51 t499.length co51) t499)∧Aside0 (Kd.R (Kd.int .i64) 3 wc w.heap.size (fun k_=>some k_ ≠ ((.slice Ao34 t433.length co34) : Value).ownBlock∧some k_ ≠ ((.slice Ao39 t440.length co39) : Value).ownBlock∧some k_ ≠ ((.slice Ao50 t498.length co50) : Value).ownBlock∧some k_ ≠ ((.slice Ao61 t469.length co61) : Value).ownBlock∧some k_ ≠ ((.slice Ao66 t476.length co66) : Value).ownBlock∧some k_ ≠ ((.slice Ao169 t531.length co169) : Value).ownBlock∧some k_ ≠ ((.slice Ao174 t538.length co174) : Value).ownBlock) (.slice Ao52 t500.length co52) t500)∧Aside0 (Kd.R k134 134 wc w.heap.size (fun k_=>some k_ ≠ ((.slice Ao32 t430.length co32) : Value).ownBlock∧some k_ ≠ ((.slice Ao45 t497.length co45) : Value).ownBlock∧some k_ ≠ ((.slice Ao167 t528.length co167) : Value).ownBlock) (.slice Ao59 t466.length co59) t503)∧Aside0 (Kd.R (Kd.int .i64) 3 wc w.heap.size (fun k_=>some k_ ≠ ((.slice Ao34 t433.length co34) : Value).ownBlock∧some k_ ≠ ((.slice Ao39 t440.length co39) : Value).ownBlock∧some k_ ≠ ((.slice Ao50 t498.length co50) : Value).ownBlock∧some k_ ≠ ((.slice Ao52 t500.length co52) : Value).ownBlock∧some k_ ≠ ((.slice Ao66 t476.length co66) : Value).ownBlock∧some k_ ≠ ((.slice Ao169 t531.length co169) : Value).ownBlock∧some k_ ≠ ((.slice Ao174 t538.length co174) : Value).ownBlock) (.slice Ao61 t469.length co61) t504)∧Aside0 (Kd.R k127 127 wc w.heap.size (fun k_=>some k_ ≠ ((.slice Ao36 t436.length co36) : Value).ownBlock∧some k_ ≠ ((.slice Ao51 t499.length co51) : Value).ownBlock∧some k_ ≠ ((.slice Ao171 t534.length co171) : Value).ownBlock) (.slice Ao63 t472.length co63) t505)∧Aside0 (Kd.R (Kd.int .i64) 3 wc w.heap.size (fun k_=>some k_ ≠ ((.slice Ao34 t433.length co34) : Value).ownBlock∧some k_ ≠ ((.slice Ao39 t440.length co39) : Value).ownBlock∧some k_ ≠ ((.slice Ao50 t498.length co50) : Value).ownBlock∧some k_ ≠ ((.slice Ao52 t500.length co52) : Value).ownBlock∧some k_ ≠ ((.slice Ao61 t469.length co61) : Value).ownBlock∧some k_ ≠ ((.slice Ao169 t531.length co169) : Value).ownBlock∧some k_ ≠ ((.slice Ao174 t538.length co174) : Value).ownBlock) (.slice Ao66 t476.length co66) t506)∧Aside0 (Kd.R k134 134 wc w.heap.size (fun k_=>some k_ ≠ ((.slice Ao32 t430.length co32) : Value).ownBlock∧some k_ ≠ ((.slice Ao45 t497.length co45) : Value).ownBlock∧some k_ ≠ ((.slice Ao59 t466.length co59) : Value).ownBlock) (.slice Ao167 t528.length co167) t528)∧Aside0 (Kd.R (Kd.int .i64) 3 wc w.heap.size (fun k_=>some k_ ≠ ((.slice Ao34 t433.length co34) : Value).ownBlock∧some k_ ≠ ((.slice Ao39 t440.length co39) : Value).ownBlock∧some k_ ≠ ((.slice Ao50 t498.length co50) : Value).ownBlock∧some k_ ≠ ((.slice Ao52 t500.length co52) : Value).ownBlock∧some k_ ≠ ((.slice Ao61 t469.length co61) : Value).ownBlock∧some k_ ≠ ((.slice Ao66 t476.length co66) : Value).ownBlock∧some k_ ≠ ((.slice Ao174 t538.length co174) : Value).ownBlock) (.slice Ao169 t531.length co169) t531)∧Aside0 (Kd.R k127 127 wc w.heap.size (fun k_=>some k_ ≠ ((.slice Ao36 t436.length co36) : Value).ownBlock∧some k_ ≠ ((.slice Ao51 t499.length co51) : Value).ownBlock∧some k_ ≠ ((.slice Ao63 t472.length co63) : Value).ownBlock) (.slice Ao171 t534.length co171) t534)∧Aside0 (Kd.R (Kd.int .i64) 3 wc w.heap.size (fun k_=>some k_ ≠ ((.slice Ao34 t433.length co34) : Value).ownBlock∧some k_ ≠ ((.slice Ao39 t440.length co39) : Value).ownBlock∧some k_ ≠ ((.slice Ao50 t498.length co50) : Value).ownBlock∧some k_ ≠ ((.slice Ao52 t500.length co52) : Value).ownBlock∧some k_ ≠ ((.slice Ao61 t469.length co61) : Value).ownBlock∧some k_ ≠ ((.slice Ao66 t476.length co66) : Value).ownBlock∧some k_ ≠ ((.slice Ao169 t531.length co169) : Value).ownBlock) (.slice Ao174 t538.length co174) t538)∧Aside0 (wc.heap[gb407]? = some (.cells #[(.slice A0_0 l0_0.length c0_0),(.slice A0_1 l0_1.length c0_1),(.slice A0_2 l0_2.length c0_2),.int .i64 a0_3,(.slice A0_4 l0_4.length c0_4)] 45 (0,0)))∧Aside0 (wc.heap[gb408]? = some (.cells #[.int .i64 a1_0,.int .i64 a1_1,.int .i64 a1_2,.int .i64 a1_3,.int .i64 a1_4,.int .i64 a1_5,.int .i64 a1_6] 107 (0,0)))∧Aside0 (wc.heap[gb444]? = some (.cells #[(.slice Ao32 t430.length co32),(.slice Ao34 t433.length co34),(.slice Ao36 t436.length co36),.int .i64 t439,(.slice Ao39 t440.length co39)] 51 (0,0)))∧Aside0 (wc.heap[gb458]? = some (.cells #[(.slice Ao45 t497.length co45),(.slice Ao50 t498.length co50),(.slice Ao51 t499.length co51),.int .i64 t454,(.slice Ao52 t500.length co52)] 51 (0,0)))∧Aside0 (wc.heap[gb480]? = some (.cells #[(.slice Ao59 t466.length co59),(.slice Ao61 t469.length co61),(.slice Ao63 t472.length co63),.int .i64 t475,(.slice Ao66 t476.length co66)] 51 (0,0)))∧Aside0 (wc.heap[gb542]? = some (.cells #[(.slice Ao167 t528.length co167),(.slice Ao169 t531.length co169),(.slice Ao171 t534.length co171),.int .i64 t537,(.slice Ao174 t538.length co174)] 51 (0,0)))∧Aside0 (Below w.heap.size w wc))
     case first =>
      have H:=HC148.out
      clear HC148
      replace H:=Option.bind_eq_some_iff.mp H
      obtain ⟨t543,A1760,H⟩:=H
      try dsimp only at H
      have A176:=ak A1760
      clear A1760
      by_cases c177 : t543 = true
      rotate_left
      ·replace c177:=Bool.eq_false_iff.mpr c177
       subst c177
       have H1 : (laws_FnExactKept.j2 kj94 t502 true t503 t504 t505 t475 t506) = some true:=by rw [if_neg (show ¬ (false = true) by decide)] at H;exact H
       exact absurd H1 (by cases kj94 <;> simp [laws_FnExactKept.j2])
      subst c177
      have H1 : (laws_FnExactKept.j2 kj94 t502 (t541 != t443) t503 t504 t505 t475 t506) = some true:=by rw [if_pos rfl] at H;exact H
      clear H
      have H:=H1
      clear H1
      have H':=ak H
      clear H
      have hnb178:=NB542_407.out
      have hnc178:=NB407_542.out
      have hnb179:=NB542_408.out
      have hnc179:=NB408_542.out
      have hnb180:=NB542_444.out
      have hnc180:=NB444_542.out
      have hnb181:=NB542_458.out
      have hnc181:=NB458_542.out
      have hnb182:=NB542_480.out
      have hnc182:=NB480_542.out
      have hz183:=bc5 BK542
      have hnb184:=NB444_407.out
      have hnc184:=NB407_444.out
      have hnb185:=NB444_408.out
      have hnc185:=NB408_444.out
      have hnb186:=NB444_458.out
      have hnc186:=NB458_444.out
      have hnb187:=NB444_480.out
      have hnc187:=NB480_444.out
      have hz188:=bc5 BK444
      go_wp2_with (first | ((with_reducible refine gc (f:=27) rfl ?_);refine gl (some 89) Try.func27 #[.agg #[.slice Ao167 t528.length co167,.slice Ao169 t531.length co169,.slice Ao171 t534.length co171,.int .i64 t537,.slice Ao174 t538.length co174],.agg #[.slice Ao32 t430.length co32,.slice Ao34 t433.length co34,.slice Ao36 t436.length co36,.int .i64 t439,.slice Ao39 t440.length co39]] ?_;(with_reducible refine (laws_eqKeeper.calls kj94 _ _ t528 _ _ t531 _ _ t534 t537 _ _ t538 _ _ t430 _ _ t433 _ _ t436 t439 _ _ t440 true _ ?side1 ?side2 ?side3 ?side4 ?side5 ?side6 ?side7 ?side8 ?side9 ?side10 ?side11 ?side12 ?side13 ?side14 ?side15 ?side16 A176.out).mono ?_);(case side1=>refine (Kd.R_reads' (e:=134) (base:=w.heap.size) (ok:=fun k_=>(some k_ ≠ (v509 : Value).ownBlock∧(some k_ ≠ (.slice Ao32 t430.length co32 : Value).ownBlock∧(some k_ ≠ (.slice Ao45 t497.length co45 : Value).ownBlock∧some k_ ≠ (.slice Ao59 t466.length co59 : Value).ownBlock)))) (n:=t528.length) (c:=co167) ?_).2.2;exact (rfa HO530));(case side2=>exact (Kd.R_reads' HO530.out).2.1);(case side3=>refine (Kd.R_reads' (e:=3) (base:=w.heap.size) (ok:=fun k_=>(some k_ ≠ (v512 : Value).ownBlock∧(some k_ ≠ (v519 : Value).ownBlock∧(some k_ ≠ (.slice Ao174 t538.length co174 : Value).ownBlock∧(some k_ ≠ (.slice Ao34 t433.length co34 : Value).ownBlock∧(some k_ ≠ (.slice Ao39 t440.length co39 : Value).ownBlock∧(some k_ ≠ (.slice Ao50 t498.length co50 : Value).ownBlock∧(some k_ ≠ (.slice Ao52 t500.length co52 : Value).ownBlock∧(some k_ ≠ (.slice Ao61 t469.length co61 : Value).ownBlock∧some k_ ≠ (.slice Ao66 t476.length co66 : Value).ownBlock))))))))) (n:=t531.length) (c:=co169) ?_).2.2;exact (rfa HO533));(case side4=>exact (Kd.R_reads' HO533.out).2.1);(case side5=>refine (Kd.R_reads' (e:=127) (base:=w.heap.size) (ok:=fun k_=>(some k_ ≠ (v515 : Value).ownBlock∧(some k_ ≠ (.slice Ao36 t436.length co36 : Value).ownBlock∧(some k_ ≠ (.slice Ao51 t499.length co51 : Value).ownBlock∧some k_ ≠ (.slice Ao63 t472.length co63 : Value).ownBlock)))) (n:=t534.length) (c:=co171) ?_).2.2;exact (rfa HO536));(case side6=>exact (Kd.R_reads' HO536.out).2.1);(case side7=>refine (Kd.R_reads' (e:=3) (base:=w.heap.size) (ok:=fun k_=>(some k_ ≠ (v512 : Value).ownBlock∧(some k_ ≠ (v519 : Value).ownBlock∧(some k_ ≠ (.slice Ao169 t531.length co169 : Value).ownBlock∧(some k_ ≠ (.slice Ao34 t433.length co34 : Value).ownBlock∧(some k_ ≠ (.slice Ao39 t440.length co39 : Value).ownBlock∧(some k_ ≠ (.slice Ao50 t498.length co50 : Value).ownBlock∧(some k_ ≠ (.slice Ao52 t500.length co52 : Value).ownBlock∧(some k_ ≠ (.slice Ao61 t469.length co61 : Value).ownBlock∧some k_ ≠ (.slice Ao66 t476.length co66 : Value).ownBlock))))))))) (n:=t538.length) (c:=co174) ?_).2.2;exact (rfa HO540));(case side8=>exact (Kd.R_reads' HO540.out).2.1);(case side9=>refine (Kd.R_reads' (e:=134) (base:=w.heap.size) (ok:=fun k_=>(some k_ ≠ (v509 : Value).ownBlock∧(some k_ ≠ (.slice Ao167 t528.length co167 : Value).ownBlock∧(some k_ ≠ (.slice Ao45 t497.length co45 : Value).ownBlock∧some k_ ≠ (.slice Ao59 t466.length co59 : Value).ownBlock)))) (n:=t430.length) (c:=co32) ?_).2.2;exact (rfa HO_445000));(case side10=>exact (Kd.R_reads' HO_445000.out).2.1);(case side11=>refine (Kd.R_reads' (e:=3) (base:=w.heap.size) (ok:=fun k_=>(some k_ ≠ (v512 : Value).ownBlock∧(some k_ ≠ (v519 : Value).ownBlock∧(some k_ ≠ (.slice Ao169 t531.length co169 : Value).ownBlock∧(some k_ ≠ (.slice Ao174 t538.length co174 : Value).ownBlock∧(some k_ ≠ (.slice Ao39 t440.length co39 : Value).ownBlock∧(some k_ ≠ (.slice Ao50 t498.length co50 : Value).ownBlock∧(some k_ ≠ (.slice Ao52 t500.length co52 : Value).ownBlock∧(some k_ ≠ (.slice Ao61 t469.length co61 : Value).ownBlock∧some k_ ≠ (.slice Ao66 t476.length co66 : Value).ownBlock))))))))) (n:=t433.length) (c:=co34) ?_).2.2;exact (rfa HO_445001));(case side12=>exact (Kd.R_reads' HO_445001.out).2.1);(case side13=>refine (Kd.R_reads' (e:=127) (base:=w.heap.size) (ok:=fun k_=>(some k_ ≠ (v515 : Value).ownBlock∧(some k_ ≠ (.slice Ao171 t534.length co171 : Value).ownBlock∧(some k_ ≠ (.slice Ao51 t499.length co51 : Value).ownBlock∧some k_ ≠ (.slice Ao63 t472.length co63 : Value).ownBlock)))) (n:=t436.length) (c:=co36) ?_).2.2;exact (rfa HO_445002));(case side14=>exact (Kd.R_reads' HO_445002.out).2.1);(case side15=>refine (Kd.R_reads' (e:=3) (base:=w.heap.size) (ok:=fun k_=>(some k_ ≠ (v512 : Value).ownBlock∧(some k_ ≠ (v519 : Value).ownBlock∧(some k_ ≠ (.slice Ao169 t531.length co169 : Value).ownBlock∧(some k_ ≠ (.slice Ao174 t538.length co174 : Value).ownBlock∧(some k_ ≠ (.slice Ao34 t433.length co34 : Value).ownBlock∧(some k_ ≠ (.slice Ao50 t498.length co50 : Value).ownBlock∧(some k_ ≠ (.slice Ao52 t500.length co52 : Value).ownBlock∧(some k_ ≠ (.slice Ao61 t469.length co61 : Value).ownBlock∧some k_ ≠ (.slice Ao66 t476.length co66 : Value).ownBlock))))))))) (n:=t440.length) (c:=co39) ?_).2.2;exact (rfa HO_445004));(case side16=>exact (Kd.R_reads' HO_445004.out).2.1);rintro e w189 ⟨rfl,hb⟩;refine ⟨_,rfl,?_⟩;have n_ : _∧_∧_∧_∧_∧_∧_∧_∧_∧_∧_∧_∧_∧_∧_∧_∧_∧_∧_∧_∧_∧_∧_∧_∧_∧_∧_:=⟨kaf HO_445000 hb,kaf HO_445001 hb,kaf HO_445002 hb,kaf HO_445004 hb,kaf HO_459000 hb,kaf HO_459001 hb,kaf HO_459002 hb,kaf HO_459004 hb,kaf HO_481000 hb,kaf HO_481001 hb,kaf HO_481002 hb,kaf HO_481004 hb,kaf HO510 hb,kaf HO513 hb,kaf HO516 hb,kaf HO520 hb,kaf HO530 hb,kaf HO533 hb,kaf HO536 hb,kaf HO540 hb,kp #[.slice A0_0 l0_0.length c0_0,.slice A0_1 l0_1.length c0_1,.slice A0_2 l0_2.length c0_2,.int .i64 a0_3,.slice A0_4 l0_4.length c0_4] BK407 hb,kp #[.int .i64 a1_0,.int .i64 a1_1,.int .i64 a1_2,.int .i64 a1_3,.int .i64 a1_4,.int .i64 a1_5,.int .i64 a1_6] BK408 hb,kp #[.slice Ao32 t430.length co32,.slice Ao34 t433.length co34,.slice Ao36 t436.length co36,.int .i64 t439,.slice Ao39 t440.length co39] BK444 hb,kp #[.slice Ao45 t497.length co45,.slice Ao50 t498.length co50,.slice Ao51 t499.length co51,.int .i64 t454,.slice Ao52 t500.length co52] BK458 hb,kp #[.slice Ao59 t466.length co59,.slice Ao61 t469.length co61,.slice Ao63 t472.length co63,.int .i64 t475,.slice Ao66 t476.length co66] BK480 hb,kp #[.slice Ao167 t528.length co167,.slice Ao169 t531.length co169,.slice Ao171 t534.length co171,.int .i64 t537,.slice Ao174 t538.length co174] BK542 hb,kh HB hb⟩;clear HO_445000 HO_445001 HO_445002 HO_445004 HO_459000 HO_459001 HO_459002 HO_459004 HO_481000 HO_481001 HO_481002 HO_481004 HO510 HO513 HO516 HO520 HO530 HO533 HO536 HO540 BK407 BK408 BK444 BK458 BK480 BK542 HB;obtain ⟨HO_445000,HO_445001,HO_445002,HO_445004,HO_459000,HO_459001,HO_459002,HO_459004,HO_481000,HO_481001,HO_481002,HO_481004,HO510,HO513,HO516,HO520,HO530,HO533,HO536,HO540,BK407,BK408,BK444,BK458,BK480,BK542,HB⟩:=n_;(try clear hb);(try clear hb2);(try clear hk);(try clear hi)))
      go_meet
      case rel=>exact ⟨_,((t541 != t443)),(by first | rfl | (simp;done) | (simp [*];done)),H',⟨by have:=HJ15.out;have:=HJ94.out;first | omega | exact Nat.le_refl _⟩,⟨by (try simp only [hl459000_94]);(try simp only [hl459001_94]);(try simp only [hl459002_94]);(try simp only [hl459004_94]);(with_reducible repeat (first | apply Kd.R_alloc | apply Kd.R_drewN | apply Kd.R_drew));exact Kd.R_mono HO_445000.out (fun _ hk=>⟨hk.2.2.1,⟨hk.2.2.2,hk.2.1⟩⟩)⟩,⟨by (try simp only [hl459000_94]);(try simp only [hl459001_94]);(try simp only [hl459002_94]);(try simp only [hl459004_94]);(with_reducible repeat (first | apply Kd.R_alloc | apply Kd.R_drewN | apply Kd.R_drew));exact Kd.R_mono HO_445001.out (fun _ hk=>⟨hk.2.2.2.2.1,⟨hk.2.2.2.2.2.1,⟨hk.2.2.2.2.2.2.1,⟨hk.2.2.2.2.2.2.2.1,⟨hk.2.2.2.2.2.2.2.2,⟨hk.2.2.1,hk.2.2.2.1⟩⟩⟩⟩⟩⟩)⟩,⟨by (try simp only [hl459000_94]);(try simp only [hl459001_94]);(try simp only [hl459002_94]);(try simp only [hl459004_94]);(with_reducible repeat (first | apply Kd.R_alloc | apply Kd.R_drewN | apply Kd.R_drew));exact Kd.R_mono HO_445002.out (fun _ hk=>⟨hk.2.2.1,⟨hk.2.2.2,hk.2.1⟩⟩)⟩,⟨by (try simp only [hl459000_94]);(try simp only [hl459001_94]);(try simp only [hl459002_94]);(try simp only [hl459004_94]);(with_reducible repeat (first | apply Kd.R_alloc | apply Kd.R_drewN | apply Kd.R_drew));exact Kd.R_mono HO_445004.out (fun _ hk=>⟨hk.2.2.2.2.1,⟨hk.2.2.2.2.2.1,⟨hk.2.2.2.2.2.2.1,⟨hk.2.2.2.2.2.2.2.1,⟨hk.2.2.2.2.2.2.2.2,⟨hk.2.2.1,hk.2.2.2.1⟩⟩⟩⟩⟩⟩)⟩,⟨by (try simp only [hl459000_94]);(try simp only [hl459001_94]);(try simp only [hl459002_94]);(try simp only [hl459004_94]);(with_reducible repeat (first | apply Kd.R_alloc | apply Kd.R_drewN | apply Kd.R_drew));exact Kd.R_mono HO_459000.out (fun _ hk=>⟨hk.2.2.1,⟨hk.2.2.2,hk.2.1⟩⟩)⟩,⟨by (try simp only [hl459000_94]);(try simp only [hl459001_94]);(try simp only [hl459002_94]);(try simp only [hl459004_94]);(with_reducible repeat (first | apply Kd.R_alloc | apply Kd.R_drewN | apply Kd.R_drew));exact Kd.R_mono HO_459001.out (fun _ hk=>⟨hk.2.2.2.2.1,⟨hk.2.2.2.2.2.1,⟨hk.2.2.2.2.2.2.1,⟨hk.2.2.2.2.2.2.2.1,⟨hk.2.2.2.2.2.2.2.2,⟨hk.2.2.1,hk.2.2.2.1⟩⟩⟩⟩⟩⟩)⟩,⟨by (try simp only [hl459000_94]);(try simp only [hl459001_94]);(try simp only [hl459002_94]);(try simp only [hl459004_94]);(with_reducible repeat (first | apply Kd.R_alloc | apply Kd.R_drewN | apply Kd.R_drew));exact Kd.R_mono HO_459002.out (fun _ hk=>⟨hk.2.2.1,⟨hk.2.2.2,hk.2.1⟩⟩)⟩,⟨by (try simp only [hl459000_94]);(try simp only [hl459001_94]);(try simp only [hl459002_94]);(try simp only [hl459004_94]);(with_reducible repeat (first | apply Kd.R_alloc | apply Kd.R_drewN | apply Kd.R_drew));exact Kd.R_mono HO_459004.out (fun _ hk=>⟨hk.2.2.2.2.1,⟨hk.2.2.2.2.2.1,⟨hk.2.2.2.2.2.2.1,⟨hk.2.2.2.2.2.2.2.1,⟨hk.2.2.2.2.2.2.2.2,⟨hk.2.2.1,hk.2.2.2.1⟩⟩⟩⟩⟩⟩)⟩,⟨by (try simp only [hl459000_94]);(try simp only [hl459001_94]);(try simp only [hl459002_94]);(try simp only [hl459004_94]);(with_reducible repeat (first | apply Kd.R_alloc | apply Kd.R_drewN | apply Kd.R_drew));exact Kd.R_mono HO_481000.out (fun _ hk=>⟨hk.2.2.1,⟨hk.2.2.2,hk.2.1⟩⟩)⟩,⟨by (try simp only [hl459000_94]);(try simp only [hl459001_94]);(try simp only [hl459002_94]);(try simp only [hl459004_94]);(with_reducible repeat (first | apply Kd.R_alloc | apply Kd.R_drewN | apply Kd.R_drew));exact Kd.R_mono HO_481001.out (fun _ hk=>⟨hk.2.2.2.2.1,⟨hk.2.2.2.2.2.1,⟨hk.2.2.2.2.2.2.1,⟨hk.2.2.2.2.2.2.2.1,⟨hk.2.2.2.2.2.2.2.2,⟨hk.2.2.1,hk.2.2.2.1⟩⟩⟩⟩⟩⟩)⟩,⟨by (try simp only [hl459000_94]);(try simp only [hl459001_94]);(try simp only [hl459002_94]);(try simp only [hl459004_94]);(with_reducible repeat (first | apply Kd.R_alloc | apply Kd.R_drewN | apply Kd.R_drew));exact Kd.R_mono HO_481002.out (fun _ hk=>⟨hk.2.2.1,⟨hk.2.2.2,hk.2.1⟩⟩)⟩,⟨by (try simp only [hl459000_94]);(try simp only [hl459001_94]);(try simp only [hl459002_94]);(try simp only [hl459004_94]);(with_reducible repeat (first | apply Kd.R_alloc | apply Kd.R_drewN | apply Kd.R_drew));exact Kd.R_mono HO_481004.out (fun _ hk=>⟨hk.2.2.2.2.1,⟨hk.2.2.2.2.2.1,⟨hk.2.2.2.2.2.2.1,⟨hk.2.2.2.2.2.2.2.1,⟨hk.2.2.2.2.2.2.2.2,⟨hk.2.2.1,hk.2.2.2.1⟩⟩⟩⟩⟩⟩)⟩,⟨by (try simp only [hl459000_94]);(try simp only [hl459001_94]);(try simp only [hl459002_94]);(try simp only [hl459004_94]);(with_reducible repeat (first | apply Kd.R_alloc | apply Kd.R_drewN | apply Kd.R_drew));exact Kd.R_mono HO530.out (fun _ hk=>⟨hk.2.1,⟨hk.2.2.1,hk.2.2.2⟩⟩)⟩,⟨by (try simp only [hl459000_94]);(try simp only [hl459001_94]);(try simp only [hl459002_94]);(try simp only [hl459004_94]);(with_reducible repeat (first | apply Kd.R_alloc | apply Kd.R_drewN | apply Kd.R_drew));exact Kd.R_mono HO533.out (fun _ hk=>⟨hk.2.2.2.1,⟨hk.2.2.2.2.1,⟨hk.2.2.2.2.2.1,⟨hk.2.2.2.2.2.2.1,⟨hk.2.2.2.2.2.2.2.1,⟨hk.2.2.2.2.2.2.2.2,hk.2.2.1⟩⟩⟩⟩⟩⟩)⟩,⟨by (try simp only [hl459000_94]);(try simp only [hl459001_94]);(try simp only [hl459002_94]);(try simp only [hl459004_94]);(with_reducible repeat (first | apply Kd.R_alloc | apply Kd.R_drewN | apply Kd.R_drew));exact Kd.R_mono HO536.out (fun _ hk=>⟨hk.2.1,⟨hk.2.2.1,hk.2.2.2⟩⟩)⟩,⟨by (try simp only [hl459000_94]);(try simp only [hl459001_94]);(try simp only [hl459002_94]);(try simp only [hl459004_94]);(with_reducible repeat (first | apply Kd.R_alloc | apply Kd.R_drewN | apply Kd.R_drew));exact Kd.R_mono HO540.out (fun _ hk=>⟨hk.2.2.2.1,⟨hk.2.2.2.2.1,⟨hk.2.2.2.2.2.1,⟨hk.2.2.2.2.2.2.1,⟨hk.2.2.2.2.2.2.2.1,⟨hk.2.2.2.2.2.2.2.2,hk.2.2.1⟩⟩⟩⟩⟩⟩)⟩,⟨by (try simp only [hl459000_94]);(try simp only [hl459001_94]);(try simp only [hl459002_94]);(try simp only [hl459004_94]);(with_reducible repeat (first | refine blk_drewN ?_ _ | refine blk_drew ?_ | refine blk_alloc ?_ _));exact BK407.out⟩,⟨by (try simp only [hl459000_94]);(try simp only [hl459001_94]);(try simp only [hl459002_94]);(try simp only [hl459004_94]);(with_reducible repeat (first | refine blk_drewN ?_ _ | refine blk_drew ?_ | refine blk_alloc ?_ _));exact BK408.out⟩,⟨by (try simp only [hl459000_94]);(try simp only [hl459001_94]);(try simp only [hl459002_94]);(try simp only [hl459004_94]);(with_reducible repeat (first | refine blk_drewN ?_ _ | refine blk_drew ?_ | refine blk_alloc ?_ _));exact BK444.out⟩,⟨by (try simp only [hl459000_94]);(try simp only [hl459001_94]);(try simp only [hl459002_94]);(try simp only [hl459004_94]);(with_reducible repeat (first | refine blk_drewN ?_ _ | refine blk_drew ?_ | refine blk_alloc ?_ _));exact BK458.out⟩,⟨by (try simp only [hl459000_94]);(try simp only [hl459001_94]);(try simp only [hl459002_94]);(try simp only [hl459004_94]);(with_reducible repeat (first | refine blk_drewN ?_ _ | refine blk_drew ?_ | refine blk_alloc ?_ _));exact BK480.out⟩,⟨by (try simp only [hl459000_94]);(try simp only [hl459001_94]);(try simp only [hl459002_94]);(try simp only [hl459004_94]);(with_reducible repeat (first | refine blk_drewN ?_ _ | refine blk_drew ?_ | refine blk_alloc ?_ _));exact BK542.out⟩,⟨rbx HB⟩⟩
     case rest =>
      clear HC148
      try clear c1
      try clear c2
      try clear p2
      try clear c8
      try clear c17
      try clear c18
      try clear c19
      try clear c27
      try clear c29
      try clear c83
      try clear c177
      try clear c178
      try clear c179
      try clear c180
      try clear c181
      try clear c182
      try clear c184
      try clear c185
      try clear c186
      try clear c187
      try clear c190
      try clear c191
      try clear c192
      try clear c193
      try clear c194
      try clear c196
      try clear c197
      try clear c198
      try clear c199
      try clear hz183
      try clear hz188
      try clear hcz195_0
      try clear hcz195_1
      try clear hcz195_2
      try clear hcz195_3
      try clear hcz195_4
      try clear hcz200_0
      try clear hcz200_1
      try clear hcz200_2
      try clear hcz200_3
      try clear hcz200_4
      try clear hfz195_0
      try clear hfz195_1
      try clear hfz195_2
      try clear hfz195_3
      try clear hfz195_4
      try clear hfz200_0
      try clear hfz200_1
      try clear hfz200_2
      try clear hfz200_3
      try clear hfz200_4
      obtain ⟨kq,x95_147,rfl,HA,HJ147,HO_445000,HO_445001,HO_445002,HO_445004,HO_459000,HO_459001,HO_459002,HO_459004,HO_481000,HO_481001,HO_481002,HO_481004,HO_543000,HO_543001,HO_543002,HO_543004,BK407,BK408,BK444,BK458,BK480,BK542,HB⟩:=hcut
      have hl481000_147:=(Kd.R_reads' HO_481000.out).1
      rw [hl481000_147] at HO_481000
      (try simp only [hl481000_147])
      (try simp only [hl481000_147] at BK407)
      (try simp only [hl481000_147] at BK408)
      (try simp only [hl481000_147] at BK444)
      (try simp only [hl481000_147] at BK458)
      (try simp only [hl481000_147] at BK480)
      (try simp only [hl481000_147] at BK542)
      (try simp only [hl481000_147] at HO_445000)
      (try simp only [hl481000_147] at HO_445001)
      (try simp only [hl481000_147] at HO_445002)
      (try simp only [hl481000_147] at HO_445004)
      (try simp only [hl481000_147] at HO_459000)
      (try simp only [hl481000_147] at HO_459001)
      (try simp only [hl481000_147] at HO_459002)
      (try simp only [hl481000_147] at HO_459004)
      (try simp only [hl481000_147] at HO_481001)
      (try simp only [hl481000_147] at HO_481002)
      (try simp only [hl481000_147] at HO_481004)
      (try simp only [hl481000_147] at HO_543000)
      (try simp only [hl481000_147] at HO_543001)
      (try simp only [hl481000_147] at HO_543002)
      (try simp only [hl481000_147] at HO_543004)
      have hl481001_147:=(Kd.R_reads' HO_481001.out).1
      rw [hl481001_147] at HO_481001
      (try simp only [hl481001_147])
      (try simp only [hl481001_147] at BK407)
      (try simp only [hl481001_147] at BK408)
      (try simp only [hl481001_147] at BK444)
      (try simp only [hl481001_147] at BK458)
      (try simp only [hl481001_147] at BK480)
      (try simp only [hl481001_147] at BK542)
      (try simp only [hl481001_147] at HO_445000)
      (try simp only [hl481001_147] at HO_445001)
      (try simp only [hl481001_147] at HO_445002)
      (try simp only [hl481001_147] at HO_445004)
      (try simp only [hl481001_147] at HO_459000)
      (try simp only [hl481001_147] at HO_459001)
      (try simp only [hl481001_147] at HO_459002)
      (try simp only [hl481001_147] at HO_459004)
      (try simp only [hl481001_147] at HO_481000)
      (try simp only [hl481001_147] at HO_481002)
      (try simp only [hl481001_147] at HO_481004)
      (try simp only [hl481001_147] at HO_543000)
      (try simp only [hl481001_147] at HO_543001)
      (try simp only [hl481001_147] at HO_543002)
      (try simp only [hl481001_147] at HO_543004)
      have hl481002_147:=(Kd.R_reads' HO_481002.out).1
      rw [hl481002_147] at HO_481002
      (try simp only [hl481002_147])
      (try simp only [hl481002_147] at BK407)
      (try simp only [hl481002_147] at BK408)
      (try simp only [hl481002_147] at BK444)
      (try simp only [hl481002_147] at BK458)
      (try simp only [hl481002_147] at BK480)
      (try simp only [hl481002_147] at BK542)
      (try simp only [hl481002_147] at HO_445000)
      (try simp only [hl481002_147] at HO_445001)
      (try simp only [hl481002_147] at HO_445002)
      (try simp only [hl481002_147] at HO_445004)
      (try simp only [hl481002_147] at HO_459000)
      (try simp only [hl481002_147] at HO_459001)
      (try simp only [hl481002_147] at HO_459002)
      (try simp only [hl481002_147] at HO_459004)
      (try simp only [hl481002_147] at HO_481000)
      (try simp only [hl481002_147] at HO_481001)
      (try simp only [hl481002_147] at HO_481004)
      (try simp only [hl481002_147] at HO_543000)
      (try simp only [hl481002_147] at HO_543001)
      (try simp only [hl481002_147] at HO_543002)
      (try simp only [hl481002_147] at HO_543004)
      have hl481004_147:=(Kd.R_reads' HO_481004.out).1
      rw [hl481004_147] at HO_481004
      (try simp only [hl481004_147])
      (try simp only [hl481004_147] at BK407)
      (try simp only [hl481004_147] at BK408)
      (try simp only [hl481004_147] at BK444)
      (try simp only [hl481004_147] at BK458)
      (try simp only [hl481004_147] at BK480)
      (try simp only [hl481004_147] at BK542)
      (try simp only [hl481004_147] at HO_445000)
      (try simp only [hl481004_147] at HO_445001)
      (try simp only [hl481004_147] at HO_445002)
      (try simp only [hl481004_147] at HO_445004)
      (try simp only [hl481004_147] at HO_459000)
      (try simp only [hl481004_147] at HO_459001)
      (try simp only [hl481004_147] at HO_459002)
      (try simp only [hl481004_147] at HO_459004)
      (try simp only [hl481004_147] at HO_481000)
      (try simp only [hl481004_147] at HO_481001)
      (try simp only [hl481004_147] at HO_481002)
      (try simp only [hl481004_147] at HO_543000)
      (try simp only [hl481004_147] at HO_543001)
      (try simp only [hl481004_147] at HO_543002)
      (try simp only [hl481004_147] at HO_543004)
      cases kq with
      | zero=>exact absurd HA.out (by simp [laws_FnExactKept.j2])
      | succ kj147 =>
       have H:=HA.out
       clear HA
       simp only [laws_FnExactKept.j2] at H
       by_cases c202 : x95_147 = true
       ·subst c202
        have H1 : (some false) = some true:=by rw [if_pos rfl] at H;exact H
        exact absurd H1 (by simp)
       replace c202:=Bool.eq_false_iff.mpr c202
       subst c202
       rw [if_neg (show ¬ (false = true) by decide)] at H
       replace H:=Option.bind_eq_some_iff.mp H
       obtain ⟨t544,A2030,H⟩:=H
       try dsimp only at H
       have A203:=ak A2030
       clear A2030
       by_cases c204 : t544 < 0
       ·rw [if_pos c204] at H
        exact absurd H (by simp)
       rw [if_neg c204] at H
       have c204b0 : decide (t544 < 0) = false:=decide_eq_false c204
       clear c204
       by_cases c212 : t544 = t502
       rotate_left
       ·rw [if_neg c212] at H
        exact absurd H (by simp)
       rw [if_pos c212] at H
       have c212b0 : (t544 == t502) = true:=beq_iff_eq.mpr c212
       have c212b1 : (t544 != t502) = false:=bne_eq_false_iff_eq.mpr c212
       clear c212
       (first | (obtain rfl:=Option.some.inj H) | clear H)
       have hnb213:=NB480_407.out
       have hnc213:=NB407_480.out
       have hnb214:=NB480_408.out
       have hnc214:=NB408_480.out
       have hnb215:=NB480_444.out
       have hnc215:=NB444_480.out
       have hnb216:=NB480_458.out
       have hnc216:=NB458_480.out
       have hnb217:=NB480_542.out
       have hnc217:=NB542_480.out
       have hz218:=bc5 BK480
       go_wp2_with (first | ((with_reducible refine gc (f:=85) rfl ?_);refine gl (some 98) Try.func85 #[.agg #[.slice Ao59 t503.length co59,.slice Ao61 t504.length co61,.slice Ao63 t505.length co63,.int .i64 t475,.slice Ao66 t506.length co66],.int .i64 1] ?_;(with_reducible refine (laws_heldKeeper.calls kj147 _ _ t503 _ _ t504 _ _ t505 t475 _ _ t506 1 t544 _ ?side1 ?side2 ?side3 ?side4 ?side5 ?side6 ?side7 ?side8 A203.out).mono ?_);(case side1=>exact rc (Kd.R_reads' HO_481000.out).2.2);(case side2=>exact (Kd.R_reads' HO_481000.out).2.1);(case side3=>exact rc (Kd.R_reads' HO_481001.out).2.2);(case side4=>exact (Kd.R_reads' HO_481001.out).2.1);(case side5=>exact rc (Kd.R_reads' HO_481002.out).2.2);(case side6=>exact (Kd.R_reads' HO_481002.out).2.1);(case side7=>exact rc (Kd.R_reads' HO_481004.out).2.2);(case side8=>exact (Kd.R_reads' HO_481004.out).2.1);rintro e w219 ⟨rfl,hb⟩;refine ⟨_,rfl,?_⟩;have n_ : _∧_∧_∧_∧_∧_∧_∧_∧_∧_∧_∧_∧_∧_∧_∧_∧_∧_∧_∧_∧_∧_∧_:=⟨ka HO_445000 hb,ka HO_445001 hb,ka HO_445002 hb,ka HO_445004 hb,ka HO_459000 hb,ka HO_459001 hb,ka HO_459002 hb,ka HO_459004 hb,ka HO_481000 hb,ka HO_481001 hb,ka HO_481002 hb,ka HO_481004 hb,ka HO_543000 hb,ka HO_543001 hb,ka HO_543002 hb,ka HO_543004 hb,kb BK407 hb,kb BK408 hb,kb BK444 hb,kb BK458 hb,kb BK480 hb,kb BK542 hb,kh HB hb⟩;clear HO_445000 HO_445001 HO_445002 HO_445004 HO_459000 HO_459001 HO_459002 HO_459004 HO_481000 HO_481001 HO_481002 HO_481004 HO_543000 HO_543001 HO_543002 HO_543004 BK407 BK408 BK444 BK458 BK480 BK542 HB;obtain ⟨HO_445000,HO_445001,HO_445002,HO_445004,HO_459000,HO_459001,HO_459002,HO_459004,HO_481000,HO_481001,HO_481002,HO_481004,HO_543000,HO_543001,HO_543002,HO_543004,BK407,BK408,BK444,BK458,BK480,BK542,HB⟩:=n_;(try clear hb);(try clear hb2);(try clear hk);(try clear hi)))
       go_ret
       exact ⟨by first | rfl | (simp [errW_none,errW_some] <;> rfl) | (simp [*,errW_none,errW_some] <;> rfl),rbx HB⟩

end Go.Proofs.Ythdeicbkimlnhaa.PFnExactKept
