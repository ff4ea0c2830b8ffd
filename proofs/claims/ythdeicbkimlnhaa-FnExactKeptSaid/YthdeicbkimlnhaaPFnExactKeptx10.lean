import Derived.Test.YthdeicbkimlnhaaPFnExactKeptx0
import Derived.Test.YthdeicbkimlnhaaPFnExactKeptx8
import Derived.Test.YthdeicbkimlnhaaPFnExactKeptx9
namespace Go.Proofs.Ythdeicbkimlnhaa.PFnExactKept
open Go.RowKit Go.Proofs.YthdeicbkimlnhaaW.PrintWords Go.Proofs.YthdeicbkimlnhaaW.PrintLast Go.Proofs.YthdeicbkimlnhaaW.PrintMore Go.Proofs.YthdeicbkimlnhaaH
attribute [local go_sem] max2_int min2_int max_two min_two max_three min_three max_four min_four   -- for this text's walks alone
set_option linter.unusedVariables false
set_option linter.unusedSimpArgs false
set_option maxRecDepth 100000

/-! ### spec_Kept: function 73 -/
mutual
def spec_Kept.j0 : Nat→Bool→List (S134)→List Int→List (S127)→Int→List Int→Int→Int→Int→Int→Int→Int→Int→List (S134)→List Int→List (S127)→Int→List Int→Option ((List (S134)) × List Int × (List (S127)) × Int × List Int × Bool)
 | 0,_,_,_,_,_,_,_,_,_,_,_,_,_,_,_,_,_,_=>none
 | k + 1,x32,x311000,x311001,x311002,x311003,x311004,x312000,x312001,x312002,x312003,x312004,x312005,x312006,x327000,x327001,x327002,x327003,x327004=>if x32 = true then (some (x327000,x327001,x327002,x327003,x327004,false)) else (if 0 ≤ x312001 then (if x312001 < (x311001.length : Int) then (if x312002 = (rd x311001 x312001) then (if x327000.length < 2932031007402 then (spec_Kept.l0 k (wrap64 ((rd x311001 x312001) + 1)) x312000 x312001 x312002 x312003 x312004 x312005 x312006 (x327000 ++ [(⟨x312001,x312002,(⟨x312003,x312004,x312005,x312006⟩ : S34)⟩ : S134)]) x327001 x327002 x327003 x327004) else (none)) else (if x312002 > (rd x311001 x312001) then (if (wrap64 (x312002 - 3)) ≤ (rd x311001 x312001) then ((spec_l20Early.f k x311002 x312001 x312002).bind fun t329=>(if t329 < 0 then (if (x311002.length : Int) < 3 then (if x327002.length < 2932031007402 then (some (x327000,x327001,(x327002 ++ [(⟨x312001,x312002,(⟨x312003,x312004,x312005,x312006⟩ : S34)⟩ : S127)]),x327003,x327004,false)) else (none)) else (some (x327000,x327001,x327002,x327003,x327004,false))) else (some (x327000,x327001,x327002,x327003,x327004,false)))) else (some (x327000,x327001,x327002,x327003,x327004,false))) else (some (x327000,x327001,x327002,x327003,x327004,false)))) else (none)) else (none))
def spec_Kept.l0 : Nat→Int→Int→Int→Int→Int→Int→Int→Int→List (S134)→List Int→List (S127)→Int→List Int→Option ((List (S134)) × List Int × (List (S127)) × Int × List Int × Bool)
 | 0,_,_,_,_,_,_,_,_,_,_,_,_,_=>none
 | k + 1,x7,x312000,x312001,x312002,x312003,x312004,x312005,x312006,x327000,x327001,x327002,x327003,x327004=>if (x327000.length : Int) < 200 then ((spec_l20Early.f k x327002 x312001 x7).bind fun t336=>(if t336 < 0 then (if 0 ≤ x312001 then (if x312001 < (x327001.length : Int) then (some (x327000,(x327001.set (x312001 : Int).toNat x7),x327002,x327003,x327004,true)) else (none)) else (none)) else (if 0 ≤ t336 then (if t336 < (x327002.length : Int) then (if x327000.length < 2932031007402 then ((some (([] : List (S127)) : List (S127))).bind fun y342=>(if t336 ≤ (x327002.length : Int) then ((some (x327002.take (t336 : Int).toNat : List (S127))).bind fun y345=>(if y342.length + y345.length < 2932031007402 then ((some (y342 ++ y345 : List (S127))).bind fun y349=>(if 0 ≤ (wrap64 (t336 + 1)) then (if (wrap64 (t336 + 1)) ≤ (x327002.length : Int) then ((some (x327002.drop ((wrap64 (t336 + 1)) : Int).toNat : List (S127))).bind fun y352=>(if y349.length + y352.length < 2932031007402 then (spec_Kept.l0 k (wrap64 (x7 + 1)) x312000 x312001 x312002 x312003 x312004 x312005 x312006 (x327000 ++ [(⟨x312001,x7,(⟨(rd_T127 x327002 t336).f2.f0,(rd_T127 x327002 t336).f2.f1,(rd_T127 x327002 t336).f2.f2,(rd_T127 x327002 t336).f2.f3⟩ : S34)⟩ : S134)]) x327001 (y349 ++ y352) x327003 x327004) else (none))) else (none)) else (none))) else (none))) else (none))) else (none)) else (none)) else (none)))) else (if 0 ≤ x312001 then (if x312001 < (x327001.length : Int) then (some (x327000,(x327001.set (x312001 : Int).toNat x7),x327002,x327003,x327004,true)) else (none)) else (none))
end
def spec_Kept.f (k : Nat) (l0_0 : List (S134)) (l0_1 : List Int) (l0_2 : List (S127)) (a0_3 : Int) (l0_4 : List Int) (a1_0 : Int) (a1_1 : Int) (a1_2 : Int) (a1_3 : Int) (a1_4 : Int) (a1_5 : Int) (a1_6 : Int) : Option ((List (S134)) × List Int × (List (S127)) × Int × List Int × Bool):=(spec_l20Copy.f l0_0 l0_1 l0_2 a0_3 l0_4).bind fun bt313=>((spec_FrameOk.f k a1_0 a1_1 a1_2 a1_3 a1_4 a1_5 a1_6).bind fun t327=>(if t327 = true then (if a1_0 = 1 then (if a1_1 ≥ (l0_1.length : Int) then (spec_Kept.j0 k true l0_0 l0_1 l0_2 a0_3 l0_4 a1_0 a1_1 a1_2 a1_3 a1_4 a1_5 a1_6 bt313.1 bt313.2.1 bt313.2.2.1 bt313.2.2.2.1 bt313.2.2.2.2) else (spec_Kept.j0 k (decide ((l0_0.length : Int) ≥ 200)) l0_0 l0_1 l0_2 a0_3 l0_4 a1_0 a1_1 a1_2 a1_3 a1_4 a1_5 a1_6 bt313.1 bt313.2.1 bt313.2.2.1 bt313.2.2.2.1 bt313.2.2.2.2)) else (spec_Kept.j0 k true l0_0 l0_1 l0_2 a0_3 l0_4 a1_0 a1_1 a1_2 a1_3 a1_4 a1_5 a1_6 bt313.1 bt313.2.1 bt313.2.2.1 bt313.2.2.2.1 bt313.2.2.2.2)) else (spec_Kept.j0 k true l0_0 l0_1 l0_2 a0_3 l0_4 a1_0 a1_1 a1_2 a1_3 a1_4 a1_5 a1_6 bt313.1 bt313.2.1 bt313.2.2.1 bt313.2.2.2.1 bt313.2.2.2.2)))
theorem spec_Kept.mono_l : ∀ k,(∀ y0 y1 y2 y3 y4 y5 y6 y7 y8 y9 y10 y11 y12 y13 y14 y15 y16 y17,LeO (spec_Kept.j0 k y0 y1 y2 y3 y4 y5 y6 y7 y8 y9 y10 y11 y12 y13 y14 y15 y16 y17) (spec_Kept.j0 (k + 1) y0 y1 y2 y3 y4 y5 y6 y7 y8 y9 y10 y11 y12 y13 y14 y15 y16 y17))∧(∀ y0 y1 y2 y3 y4 y5 y6 y7 y8 y9 y10 y11 y12,LeO (spec_Kept.l0 k y0 y1 y2 y3 y4 y5 y6 y7 y8 y9 y10 y11 y12) (spec_Kept.l0 (k + 1) y0 y1 y2 y3 y4 y5 y6 y7 y8 y9 y10 y11 y12))
 | 0=>⟨fun _ _ _ _ _ _ _ _ _ _ _ _ _ _ _ _ _ _ r h=>by simp [spec_Kept.j0] at h,fun _ _ _ _ _ _ _ _ _ _ _ _ _ r h=>by simp [spec_Kept.l0] at h⟩
 | k + 1=>by
  obtain ⟨ih0,ih1⟩:=spec_Kept.mono_l k
  refine ⟨?_,?_⟩
  ·intro y0 y1 y2 y3 y4 y5 y6 y7 y8 y9 y10 y11 y12 y13 y14 y15 y16 y17
   unfold spec_Kept.j0
   repeat' first
   | (with_reducible apply ih0)
   | (with_reducible apply ih1)
   | (with_reducible apply spec_FrameOk.mono)
   | (with_reducible apply spec_l20Early.mono)
   | (with_reducible exact LeO.refl _)
   | (with_reducible exact LeO.none _)
   | (with_reducible refine LeO.ite ?_ ?_)
   | (with_reducible refine LeO.bind ?_ (fun _=>?_))
   | apply ih0
   | apply ih1
   | apply spec_FrameOk.mono
   | apply spec_l20Early.mono
   | exact LeO.none _
   | refine LeO.ite ?_ ?_
   | refine LeO.bind ?_ (fun _=>?_)
  ·intro y0 y1 y2 y3 y4 y5 y6 y7 y8 y9 y10 y11 y12
   unfold spec_Kept.l0
   repeat' first
   | (with_reducible apply ih0)
   | (with_reducible apply ih1)
   | (with_reducible apply spec_FrameOk.mono)
   | (with_reducible apply spec_l20Early.mono)
   | (with_reducible exact LeO.refl _)
   | (with_reducible exact LeO.none _)
   | (with_reducible refine LeO.ite ?_ ?_)
   | (with_reducible refine LeO.bind ?_ (fun _=>?_))
   | apply ih0
   | apply ih1
   | apply spec_FrameOk.mono
   | apply spec_l20Early.mono
   | exact LeO.none _
   | refine LeO.ite ?_ ?_
   | refine LeO.bind ?_ (fun _=>?_)
theorem spec_Kept.mono : ∀ a0 a1 a2 a3 a4 a5 a6 a7 a8 a9 a10 a11 k,LeO (spec_Kept.f k a0 a1 a2 a3 a4 a5 a6 a7 a8 a9 a10 a11) (spec_Kept.f (k + 1) a0 a1 a2 a3 a4 a5 a6 a7 a8 a9 a10 a11):=by
 intro a0 a1 a2 a3 a4 a5 a6 a7 a8 a9 a10 a11 k
 obtain ⟨ih0,ih1⟩:=spec_Kept.mono_l k
 unfold spec_Kept.f
 repeat' first
   | (with_reducible apply ih0)
   | (with_reducible apply ih1)
   | (with_reducible apply spec_FrameOk.mono)
   | (with_reducible apply spec_l20Early.mono)
   | (with_reducible exact LeO.refl _)
   | (with_reducible exact LeO.none _)
   | (with_reducible refine LeO.ite ?_ ?_)
   | (with_reducible refine LeO.bind ?_ (fun _=>?_))
   | apply ih0
   | apply ih1
   | apply spec_FrameOk.mono
   | apply spec_l20Early.mono
   | exact LeO.none _
   | refine LeO.ite ?_ ?_
   | refine LeO.bind ?_ (fun _=>?_)
def spec_Kept.T14 : Bool × List (List Nat × List Nat):=(true,[([],[]),([0],[0]),([],[]),([2],[2]),([],[]),([],[]),([5],[5]),([],[]),([6,7],[6,7]),([8],[8]),([9],[9]),([3,4,10],[3,4,10]),([11],[11]),([1,12],[1,12]),([0,1,2,3,4,5,6,7,8,9,10,11,12,13],[]),([14,13,13,0,1,2,3,4,5,6,7,8,9,10,11,12,13],[13,14])])
def spec_Kept.B14 : List Nat:=[0,1,0,4,0,0,32,0,224,480,992,2044,4092,8191,16383,32767]
theorem spec_Kept.tab14 : rtab .any (opsOf Try.f73 14) = spec_Kept.T14:=by kernel_rfl
theorem spec_Kept.bits14 : waitsOk spec_Kept.T14.2 spec_Kept.B14 = true:=by kernel_rfl
def spec_Kept.T15 : Bool × List (List Nat × List Nat):=(true,[([],[]),([],[]),([1],[1]),([],[]),([2,3],[2,3]),([0,4],[0,4]),([],[]),([6],[6]),([],[]),([8],[8]),([7,9],[7,9]),([5,10,5],[5,10]),([0,1,2,3,4,5,6,7,8,9,10,11],[]),([12,11,11,0,1,2,3,4,5,6,7,8,9,10,11],[11,12])])
def spec_Kept.B15 : List Nat:=[0,0,2,0,14,31,0,64,0,256,960,2047,4095,8191]
theorem spec_Kept.tab15 : rtab .any (opsOf Try.f73 15) = spec_Kept.T15:=by kernel_rfl
theorem spec_Kept.bits15 : waitsOk spec_Kept.T15.2 spec_Kept.B15 = true:=by kernel_rfl
set_option maxHeartbeats 8000000 in
theorem spec_Kept.calls (k : Nat) (A0_0 : Option Addr) (c0_0 : Nat) (l0_0 : List (S134)) (A0_1 : Option Addr) (c0_1 : Nat) (l0_1 : List Int) (A0_2 : Option Addr) (c0_2 : Nat) (l0_2 : List (S127)) (a0_3 : Int) (A0_4 : Option Addr) (c0_4 : Nat) (l0_4 : List Int) (a1_0 : Int) (a1_1 : Int) (a1_2 : Int) (a1_3 : Int) (a1_4 : Int) (a1_5 : Int) (a1_6 : Int) (r1 : List (S134)) (r2 : List Int) (r3 : List (S127)) (r4 : Int) (r5 : List Int) (r6 : Bool) (w : World) (hr0_0 : Kd.C k134 w A0_0 l0_0.length l0_0) (hc0_0 : l0_0.length ≤ c0_0) (hr0_1 : Kd.C (Kd.int .i64) w A0_1 l0_1.length l0_1) (hc0_1 : l0_1.length ≤ c0_1) (hr0_2 : Kd.C k127 w A0_2 l0_2.length l0_2) (hc0_2 : l0_2.length ≤ c0_2) (hr0_4 : Kd.C (Kd.int .i64) w A0_4 l0_4.length l0_4) (hc0_4 : l0_4.length ≤ c0_4) (h : spec_Kept.f k l0_0 l0_1 l0_2 a0_3 l0_4 a1_0 a1_1 a1_2 a1_3 a1_4 a1_5 a1_6 = some (r1,r2,r3,r4,r5,r6)) :
  Calls Try.prog 73 #[.agg #[.slice A0_0 l0_0.length c0_0,.slice A0_1 l0_1.length c0_1,.slice A0_2 l0_2.length c0_2,.int .i64 a0_3,.slice A0_4 l0_4.length c0_4],.agg #[.int .i64 a1_0,.int .i64 a1_1,.int .i64 a1_2,.int .i64 a1_3,.int .i64 a1_4,.int .i64 a1_5,.int .i64 a1_6]] w fun e w'=>∃ v0_ v1_ v2_ v4_ : Value,e = .returned (.tuple #[.agg #[v0_,v1_,v2_,.int .i64 r4,v4_],.bool r6])∧Kd.R k134 134 w' w.heap.size (fun _=>True) v0_ r1∧Kd.R (Kd.int .i64) 3 w' w.heap.size (fun k_=>some k_ ≠ (v4_ : Value).ownBlock) v1_ r2∧Kd.R k127 127 w' w.heap.size (fun _=>True) v2_ r3∧Kd.R (Kd.int .i64) 3 w' w.heap.size (fun k_=>some k_ ≠ (v1_ : Value).ownBlock) v4_ r5∧Below w.heap.size w w':=by
 have hu51:=Try.underlying51
 have hu36:=Try.underlying36
 have hu34:=Try.underlying34
 have hu127:=Try.underlying127
 have hu134:=Try.underlying134
 have HR0_0:=ak hr0_0
 have HC0_0:=ak hc0_0
 clear hr0_0 hc0_0
 have HR0_1:=ak hr0_1
 have HC0_1:=ak hc0_1
 clear hr0_1 hc0_1
 have HR0_2:=ak hr0_2
 have HC0_2:=ak hc0_2
 clear hr0_2 hc0_2
 have HR0_4:=ak hr0_4
 have HC0_4:=ak hc0_4
 clear hr0_4 hc0_4
 have HB:=ak (Below.refl w.heap.size w)
 have H:=h
 clear h
 unfold spec_Kept.f at H
 replace H:=Option.bind_eq_some_iff.mp H
 obtain ⟨⟨t313,t316,t319,t322,t323⟩,A30,H⟩:=H
 try dsimp only at H
 have A3:=ak A30
 clear A30
 have HC4:=ak H
 clear H
 go_enter Try.func73,Try.ntmps73
 go_upto_region 2 with (first | ((with_reducible refine gate_dst (N:=2) rfl ?_);(try (refine gate_guard (by rfl) ?_;dsimp only));refine box_event ?hg (N:=2) ?hd (cs:=#[.slice A0_0 l0_0.length c0_0,.slice A0_1 l0_1.length c0_1,.slice A0_2 l0_2.length c0_2,.int .i64 a0_3,.slice A0_4 l0_4.length c0_4]) (t:=51) ?hr ?_;(case hd=>rfl);(case hg=>rfl);(case hr=>first | (go_simp;done) | (go_simp;rfl));intro gb310 hg w5 hbox hb;have n_ : _∧_∧_∧_:=⟨kh HB hb,ak (hbox),kz HB hg,kz HB hg⟩;clear HB hb hbox hg;obtain ⟨HB,BK310,GW310,GE310⟩:=n_) | ((with_reducible refine gate_dst (N:=3) rfl ?_);(try (refine gate_guard (by rfl) ?_;dsimp only));refine box_event ?hg (N:=3) ?hd (cs:=#[.int .i64 a1_0,.int .i64 a1_1,.int .i64 a1_2,.int .i64 a1_3,.int .i64 a1_4,.int .i64 a1_5,.int .i64 a1_6]) (t:=36) ?hr ?_;(case hd=>rfl);(case hg=>rfl);(case hr=>first | (go_simp;done) | (go_simp;rfl));intro gb311 hg w6 hbox hb;have n_ : _∧_∧_∧_∧_∧_∧_:=⟨kb BK310 hb,kh HB hb,ak (hbox),kz HB hg,kz HB hg,nl BK310 hg,ng BK310 hg⟩;clear BK310 HB hb hbox hg;obtain ⟨BK310,HB,BK311,GW311,GE311,NB310_311,NB311_310⟩:=n_) | ((with_reducible refine gate_dst (N:=4) rfl ?_);(try (refine gate_guard (by rfl) ?_;dsimp only));refine box_event ?hg (N:=4) ?hd (cs:=#[.slice none 0 0,.slice none 0 0,.slice none 0 0,.int .i64 0,.slice none 0 0]) (t:=51) ?hr ?_;(case hd=>rfl);(case hg=>rfl);(case hr=>first | (go_simp;done) | (go_simp;rfl));intro gb312 hg w7 hbox hb;have n_ : _∧_∧_∧_∧_∧_∧_∧_∧_∧_:=⟨kb BK310 hb,kb BK311 hb,kh HB hb,ak (hbox),kz HB hg,kz HB hg,nl BK310 hg,ng BK310 hg,nl BK311 hg,ng BK311 hg⟩;clear BK310 BK311 HB hb hbox hg;obtain ⟨BK310,BK311,HB,BK312,GW312,GE312,NB310_312,NB312_310,NB311_312,NB312_311⟩:=n_;have hnb8:=NB310_311.out;have hnc8:=NB311_310.out;have hnb9:=NB310_312.out;have hnc9:=NB312_310.out;have hcz10_0 : w7.cell? ⟨gb310,0,none⟩ = some (.slice A0_0 l0_0.length c0_0):=(blk_cell BK310.out 0).trans rfl;have hcz10_1 : w7.cell? ⟨gb310,1,none⟩ = some (.slice A0_1 l0_1.length c0_1):=(blk_cell BK310.out 1).trans rfl;have hcz10_2 : w7.cell? ⟨gb310,2,none⟩ = some (.slice A0_2 l0_2.length c0_2):=(blk_cell BK310.out 2).trans rfl;have hcz10_3 : w7.cell? ⟨gb310,3,none⟩ = some (.int .i64 a0_3):=(blk_cell BK310.out 3).trans rfl;have hcz10_4 : w7.cell? ⟨gb310,4,none⟩ = some (.slice A0_4 l0_4.length c0_4):=(blk_cell BK310.out 4).trans rfl;have hfz10_0:=blk_frozen BK310.out 0;have hfz10_1:=blk_frozen BK310.out 1;have hfz10_2:=blk_frozen BK310.out 2;have hfz10_3:=blk_frozen BK310.out 3;have hfz10_4:=blk_frozen BK310.out 4) | ((with_reducible refine gc (f:=154) rfl ?_);refine gl (some 10) Try.func154 #[.agg #[.slice A0_0 l0_0.length c0_0,.slice A0_1 l0_1.length c0_1,.slice A0_2 l0_2.length c0_2,.int .i64 a0_3,.slice A0_4 l0_4.length c0_4]] ?_;(with_reducible refine (spec_l20Copy.calls _ _ l0_0 _ _ l0_1 _ _ l0_2 a0_3 _ _ l0_4 t313 t316 t319 t322 t323 _ ?side1 ?side2 ?side3 ?side4 ?side5 ?side6 ?side7 ?side8 A3.out).mono ?_);(case side1=>exact rc (Kd.C_below HR0_0.out HB.out));(case side2=>exact HC0_0.out);(case side3=>exact rc (Kd.C_below HR0_1.out HB.out));(case side4=>exact HC0_1.out);(case side5=>exact rc (Kd.C_below HR0_2.out HB.out));(case side6=>exact HC0_2.out);(case side7=>exact rc (Kd.C_below HR0_4.out HB.out));(case side8=>exact HC0_4.out);rintro e w11 ⟨v314,v317,v320,v324,rfl,ho0,ho1,ho2,ho3,hb⟩;refine ⟨_,rfl,?_⟩;have n_ : _∧_∧_∧_∧_∧_∧_∧_:=⟨kl ho0 HB,kl ho1 HB,kl ho2 HB,kl ho3 HB,kb BK310 hb,kb BK311 hb,kb BK312 hb,kh HB hb⟩;clear BK310 BK311 BK312 HB;obtain ⟨HO315,HO318,HO321,HO325,BK310,BK311,BK312,HB⟩:=n_;(try clear ho2);(try clear ho3)) | ((with_reducible refine gate_dst (N:=6) rfl ?_);(try (refine gate_guard (by rfl) ?_;dsimp only));refine box_event ?hg (N:=6) ?hd (cs:=#[.slice none 0 0,.slice none 0 0,.slice none 0 0,.int .i64 0,.slice none 0 0]) (t:=51) ?hr ?_;(case hd=>rfl);(case hg=>rfl);(case hr=>first | (go_simp;done) | (go_simp;rfl));intro gb326 hg w12 hbox hb;have n_ : _∧_∧_∧_∧_∧_∧_∧_∧_∧_∧_∧_∧_∧_∧_∧_∧_:=⟨ka HO315 hb,ka HO318 hb,ka HO321 hb,ka HO325 hb,kb BK310 hb,kb BK311 hb,kb BK312 hb,kh HB hb,ak (hbox),kz HB hg,kz HB hg,nl BK310 hg,ng BK310 hg,nl BK311 hg,ng BK311 hg,nl BK312 hg,ng BK312 hg⟩;clear HO315 HO318 HO321 HO325 BK310 BK311 BK312 HB hb hbox hg;obtain ⟨HO315,HO318,HO321,HO325,BK310,BK311,BK312,HB,BK326,GW326,GE326,NB310_326,NB326_310,NB311_326,NB326_311,NB312_326,NB326_312⟩:=n_;obtain ⟨Ao13,co13,eo13⟩:=Kd.R_slice HO315.out;subst eo13;have hnb14:=NB326_310.out;have hnc14:=NB310_326.out;have hnb15:=NB326_311.out;have hnc15:=NB311_326.out;have hnb16:=NB326_312.out;have hnc16:=NB312_326.out;have hcz17_0 : w12.cell? ⟨gb326,0,none⟩ = some (.slice none 0 0):=(blk_cell BK326.out 0).trans rfl;have hcz17_1 : w12.cell? ⟨gb326,1,none⟩ = some (.slice none 0 0):=(blk_cell BK326.out 1).trans rfl;have hcz17_2 : w12.cell? ⟨gb326,2,none⟩ = some (.slice none 0 0):=(blk_cell BK326.out 2).trans rfl;have hcz17_3 : w12.cell? ⟨gb326,3,none⟩ = some (.int .i64 0):=(blk_cell BK326.out 3).trans rfl;have hcz17_4 : w12.cell? ⟨gb326,4,none⟩ = some (.slice none 0 0):=(blk_cell BK326.out 4).trans rfl;have hfz17_0:=blk_frozen BK326.out 0;have hfz17_1:=blk_frozen BK326.out 1;have hfz17_2:=blk_frozen BK326.out 2;have hfz17_3:=blk_frozen BK326.out 3;have hfz17_4:=blk_frozen BK326.out 4;obtain ⟨Ao18,co18,eo18⟩:=Kd.R_slice HO318.out;subst eo18;obtain ⟨Ao19,co19,eo19⟩:=Kd.R_slice HO321.out;subst eo19;obtain ⟨Ao20,co20,eo20⟩:=Kd.R_slice HO325.out;subst eo20))
 (try simp only [Act.put,List.setIfInBounds_toArray,List.set_cons_zero,List.set_cons_succ])
 go_cut [32] (fun v32 wc=>∃ (kq : Nat) (x32_3 : Bool),v32 = .bool x32_3∧Aside0 (spec_Kept.j0 kq x32_3 l0_0 l0_1 l0_2 a0_3 l0_4 a1_0 a1_1 a1_2 a1_3 a1_4 a1_5 a1_6 t313 t316 t319 t322 t323 = some (r1,r2,r3,r4,r5,r6))∧Aside0 (kq ≤ k)∧Aside0 (Kd.R k134 134 wc w.heap.size (fun _=>True) (.slice Ao13 t313.length co13) t313)∧Aside0 (Kd.R (Kd.int .i64) 3 wc w.heap.size (fun k_=>some k_ ≠ ((.slice Ao20 t323.length co20) : Value).ownBlock) (.slice Ao18 t316.length co18) t316)∧Aside0 (Kd.R k127 127 wc w.heap.size (fun _=>True) (.slice Ao19 t319.length co19) t319)∧Aside0 (Kd.R (Kd.int .i64) 3 wc w.heap.size (fun k_=>some k_ ≠ ((.slice Ao18 t316.length co18) : Value).ownBlock) (.slice Ao20 t323.length co20) t323)∧Aside0 (wc.heap[gb310]? = some (.cells #[(.slice A0_0 l0_0.length c0_0),(.slice A0_1 l0_1.length c0_1),(.slice A0_2 l0_2.length c0_2),.int .i64 a0_3,(.slice A0_4 l0_4.length c0_4)] 51 (0,0)))∧Aside0 (wc.heap[gb311]? = some (.cells #[.int .i64 a1_0,.int .i64 a1_1,.int .i64 a1_2,.int .i64 a1_3,.int .i64 a1_4,.int .i64 a1_5,.int .i64 a1_6] 36 (0,0)))∧Aside0 (wc.heap[gb312]? = some (.cells #[(.slice none 0 0),(.slice none 0 0),(.slice none 0 0),.int .i64 0,(.slice none 0 0)] 51 (0,0)))∧Aside0 (wc.heap[gb326]? = some (.cells #[(.slice Ao13 t313.length co13),(.slice Ao18 t316.length co18),(.slice Ao19 t319.length co19),.int .i64 t322,(.slice Ao20 t323.length co20)] 51 (0,0)))∧Aside0 (Below w.heap.size w wc))
 case first =>
  have H:=HC4.out
  clear HC4
  replace H:=Option.bind_eq_some_iff.mp H
  obtain ⟨t327,A210,H⟩:=H
  try dsimp only at H
  have A21:=ak A210
  clear A210
  by_cases c22 : t327 = true
  rotate_left
  ·replace c22:=Bool.eq_false_iff.mpr c22
   subst c22
   rw [if_neg (show ¬ (false = true) by decide)] at H
   have H':=ak H
   clear H
   have hnb49:=NB311_310.out
   have hnc49:=NB310_311.out
   have hnb50:=NB311_312.out
   have hnc50:=NB312_311.out
   have hnb51:=NB311_326.out
   have hnc51:=NB326_311.out
   have hz52:=bc7 BK311
   go_wp2_with (first | ((with_reducible refine gc (f:=126) rfl ?_);refine gl (some 12) Try.func126 #[.agg #[.int .i64 a1_0,.int .i64 a1_1,.int .i64 a1_2,.int .i64 a1_3,.int .i64 a1_4,.int .i64 a1_5,.int .i64 a1_6]] ?_;(with_reducible refine (spec_FrameOk.calls k a1_0 a1_1 a1_2 a1_3 a1_4 a1_5 a1_6 false _ A21.out).mono ?_);rintro e w53 ⟨rfl,hb⟩;refine ⟨_,rfl,?_⟩;have n_ : _∧_∧_∧_∧_∧_∧_∧_∧_:=⟨kaf HO315 hb,kaf HO318 hb,kaf HO321 hb,kaf HO325 hb,kp #[.slice A0_0 l0_0.length c0_0,.slice A0_1 l0_1.length c0_1,.slice A0_2 l0_2.length c0_2,.int .i64 a0_3,.slice A0_4 l0_4.length c0_4] BK310 hb,kp #[.int .i64 a1_0,.int .i64 a1_1,.int .i64 a1_2,.int .i64 a1_3,.int .i64 a1_4,.int .i64 a1_5,.int .i64 a1_6] BK311 hb,kp #[.slice none 0 0,.slice none 0 0,.slice none 0 0,.int .i64 0,.slice none 0 0] BK312 hb,kp #[.slice Ao13 t313.length co13,.slice Ao18 t316.length co18,.slice Ao19 t319.length co19,.int .i64 t322,.slice Ao20 t323.length co20] BK326 hb,kh HB hb⟩;clear HO315 HO318 HO321 HO325 BK310 BK311 BK312 BK326 HB;obtain ⟨HO315,HO318,HO321,HO325,BK310,BK311,BK312,BK326,HB⟩:=n_;(try clear hb);(try clear hb2);(try clear hk);(try clear hi)))
   go_meet
   case rel=>exact ⟨_,(true),(by first | rfl | (simp;done) | (simp [*];done)),H',⟨by first | omega | exact Nat.le_refl _⟩,⟨rr HO315.out⟩,⟨rr HO318.out⟩,⟨rr HO321.out⟩,⟨rr HO325.out⟩,⟨rk BK310.out⟩,⟨rk BK311.out⟩,⟨rk BK312.out⟩,⟨rk BK326.out⟩,⟨rbx HB⟩⟩
  subst c22
  have H1 : (if a1_0 = 1 then (if a1_1 ≥ (l0_1.length : Int) then (spec_Kept.j0 k true l0_0 l0_1 l0_2 a0_3 l0_4 a1_0 a1_1 a1_2 a1_3 a1_4 a1_5 a1_6 t313 t316 t319 t322 t323) else (spec_Kept.j0 k (decide ((l0_0.length : Int) ≥ 200)) l0_0 l0_1 l0_2 a0_3 l0_4 a1_0 a1_1 a1_2 a1_3 a1_4 a1_5 a1_6 t313 t316 t319 t322 t323)) else (spec_Kept.j0 k true l0_0 l0_1 l0_2 a0_3 l0_4 a1_0 a1_1 a1_2 a1_3 a1_4 a1_5 a1_6 t313 t316 t319 t322 t323)) = some (r1,r2,r3,r4,r5,r6):=by rw [if_pos rfl] at H;exact H
  clear H
  have H:=H1
  clear H1
  by_cases c23 : a1_0 = 1
  rotate_left
  ·rw [if_neg c23] at H
   have c23b0 : (a1_0 == 1) = false:=beq_eq_false_iff_ne.mpr c23
   have c23b1 : (a1_0 != 1) = true:=bne_iff_ne.mpr c23
   (first | rw [c23b0] | (simp only [i64_w,i32_w];rw [c23b0]) | skip)
   have H':=ak H
   clear H
   have hnb43:=NB311_310.out
   have hnc43:=NB310_311.out
   have hnb44:=NB311_312.out
   have hnc44:=NB312_311.out
   have hnb45:=NB311_326.out
   have hnc45:=NB326_311.out
   have hz46:=bc7 BK311
   go_wp2_with (first | ((with_reducible refine gc (f:=126) rfl ?_);refine gl (some 12) Try.func126 #[.agg #[.int .i64 a1_0,.int .i64 a1_1,.int .i64 a1_2,.int .i64 a1_3,.int .i64 a1_4,.int .i64 a1_5,.int .i64 a1_6]] ?_;(with_reducible refine (spec_FrameOk.calls k a1_0 a1_1 a1_2 a1_3 a1_4 a1_5 a1_6 true _ A21.out).mono ?_);rintro e w47 ⟨rfl,hb⟩;refine ⟨_,rfl,?_⟩;have n_ : _∧_∧_∧_∧_∧_∧_∧_∧_:=⟨kaf HO315 hb,kaf HO318 hb,kaf HO321 hb,kaf HO325 hb,kp #[.slice A0_0 l0_0.length c0_0,.slice A0_1 l0_1.length c0_1,.slice A0_2 l0_2.length c0_2,.int .i64 a0_3,.slice A0_4 l0_4.length c0_4] BK310 hb,kp #[.int .i64 a1_0,.int .i64 a1_1,.int .i64 a1_2,.int .i64 a1_3,.int .i64 a1_4,.int .i64 a1_5,.int .i64 a1_6] BK311 hb,kp #[.slice none 0 0,.slice none 0 0,.slice none 0 0,.int .i64 0,.slice none 0 0] BK312 hb,kp #[.slice Ao13 t313.length co13,.slice Ao18 t316.length co18,.slice Ao19 t319.length co19,.int .i64 t322,.slice Ao20 t323.length co20] BK326 hb,kh HB hb⟩;clear HO315 HO318 HO321 HO325 BK310 BK311 BK312 BK326 HB;obtain ⟨HO315,HO318,HO321,HO325,BK310,BK311,BK312,BK326,HB⟩:=n_;(try clear hb);(try clear hb2);(try clear hk);(try clear hi);have hcz48_0 : w47.cell? ⟨gb311,0,none⟩ = some (.int .i64 a1_0):=(blk_cell BK311.out 0).trans rfl;have hcz48_1 : w47.cell? ⟨gb311,1,none⟩ = some (.int .i64 a1_1):=(blk_cell BK311.out 1).trans rfl;have hcz48_2 : w47.cell? ⟨gb311,2,none⟩ = some (.int .i64 a1_2):=(blk_cell BK311.out 2).trans rfl;have hcz48_3 : w47.cell? ⟨gb311,3,none⟩ = some (.int .i64 a1_3):=(blk_cell BK311.out 3).trans rfl;have hcz48_4 : w47.cell? ⟨gb311,4,none⟩ = some (.int .i64 a1_4):=(blk_cell BK311.out 4).trans rfl;have hcz48_5 : w47.cell? ⟨gb311,5,none⟩ = some (.int .i64 a1_5):=(blk_cell BK311.out 5).trans rfl;have hcz48_6 : w47.cell? ⟨gb311,6,none⟩ = some (.int .i64 a1_6):=(blk_cell BK311.out 6).trans rfl;have hfz48_0:=blk_frozen BK311.out 0;have hfz48_1:=blk_frozen BK311.out 1;have hfz48_2:=blk_frozen BK311.out 2;have hfz48_3:=blk_frozen BK311.out 3;have hfz48_4:=blk_frozen BK311.out 4;have hfz48_5:=blk_frozen BK311.out 5;have hfz48_6:=blk_frozen BK311.out 6))
   go_meet
   case rel=>exact ⟨_,(true),(by first | rfl | (simp;done) | (simp [*];done)),H',⟨by first | omega | exact Nat.le_refl _⟩,⟨rr HO315.out⟩,⟨rr HO318.out⟩,⟨rr HO321.out⟩,⟨rr HO325.out⟩,⟨rk BK310.out⟩,⟨rk BK311.out⟩,⟨rk BK312.out⟩,⟨rk BK326.out⟩,⟨rbx HB⟩⟩
  rw [if_pos c23] at H
  have c23b0 : (a1_0 == 1) = true:=beq_iff_eq.mpr c23
  have c23b1 : (a1_0 != 1) = false:=bne_eq_false_iff_eq.mpr c23
  clear c23
  (first | rw [c23b0] | (simp only [i64_w,i32_w];rw [c23b0]) | skip)
  by_cases c24 : a1_1 ≥ (l0_1.length : Int)
  ·rw [if_pos c24] at H
   have c24b0 : decide ((l0_1.length : Int) ≤ a1_1) = true:=decide_eq_true c24
   clear c24
   have H':=ak H
   clear H
   have hnb25:=NB311_310.out
   have hnc25:=NB310_311.out
   have hnb26:=NB311_312.out
   have hnc26:=NB312_311.out
   have hnb27:=NB311_326.out
   have hnc27:=NB326_311.out
   have hz28:=bc7 BK311
   go_wp2_with (first | ((with_reducible refine gc (f:=126) rfl ?_);refine gl (some 12) Try.func126 #[.agg #[.int .i64 a1_0,.int .i64 a1_1,.int .i64 a1_2,.int .i64 a1_3,.int .i64 a1_4,.int .i64 a1_5,.int .i64 a1_6]] ?_;(with_reducible refine (spec_FrameOk.calls k a1_0 a1_1 a1_2 a1_3 a1_4 a1_5 a1_6 true _ A21.out).mono ?_);rintro e w29 ⟨rfl,hb⟩;refine ⟨_,rfl,?_⟩;have n_ : _∧_∧_∧_∧_∧_∧_∧_∧_:=⟨kaf HO315 hb,kaf HO318 hb,kaf HO321 hb,kaf HO325 hb,kp #[.slice A0_0 l0_0.length c0_0,.slice A0_1 l0_1.length c0_1,.slice A0_2 l0_2.length c0_2,.int .i64 a0_3,.slice A0_4 l0_4.length c0_4] BK310 hb,kp #[.int .i64 a1_0,.int .i64 a1_1,.int .i64 a1_2,.int .i64 a1_3,.int .i64 a1_4,.int .i64 a1_5,.int .i64 a1_6] BK311 hb,kp #[.slice none 0 0,.slice none 0 0,.slice none 0 0,.int .i64 0,.slice none 0 0] BK312 hb,kp #[.slice Ao13 t313.length co13,.slice Ao18 t316.length co18,.slice Ao19 t319.length co19,.int .i64 t322,.slice Ao20 t323.length co20] BK326 hb,kh HB hb⟩;clear HO315 HO318 HO321 HO325 BK310 BK311 BK312 BK326 HB;obtain ⟨HO315,HO318,HO321,HO325,BK310,BK311,BK312,BK326,HB⟩:=n_;(try clear hb);(try clear hb2);(try clear hk);(try clear hi);have hcz30_0 : w29.cell? ⟨gb311,0,none⟩ = some (.int .i64 a1_0):=(blk_cell BK311.out 0).trans rfl;have hcz30_1 : w29.cell? ⟨gb311,1,none⟩ = some (.int .i64 a1_1):=(blk_cell BK311.out 1).trans rfl;have hcz30_2 : w29.cell? ⟨gb311,2,none⟩ = some (.int .i64 a1_2):=(blk_cell BK311.out 2).trans rfl;have hcz30_3 : w29.cell? ⟨gb311,3,none⟩ = some (.int .i64 a1_3):=(blk_cell BK311.out 3).trans rfl;have hcz30_4 : w29.cell? ⟨gb311,4,none⟩ = some (.int .i64 a1_4):=(blk_cell BK311.out 4).trans rfl;have hcz30_5 : w29.cell? ⟨gb311,5,none⟩ = some (.int .i64 a1_5):=(blk_cell BK311.out 5).trans rfl;have hcz30_6 : w29.cell? ⟨gb311,6,none⟩ = some (.int .i64 a1_6):=(blk_cell BK311.out 6).trans rfl;have hfz30_0:=blk_frozen BK311.out 0;have hfz30_1:=blk_frozen BK311.out 1;have hfz30_2:=blk_frozen BK311.out 2;have hfz30_3:=blk_frozen BK311.out 3;have hfz30_4:=blk_frozen BK311.out 4;have hfz30_5:=blk_frozen BK311.out 5;have hfz30_6:=blk_frozen BK311.out 6;have hnb31:=NB310_312.out;have hnc31:=NB312_310.out;have hnb32:=NB310_326.out;have hnc32:=NB326_310.out;have hcz33_0 : w29.cell? ⟨gb310,0,none⟩ = some (.slice A0_0 l0_0.length c0_0):=(blk_cell BK310.out 0).trans rfl;have hcz33_1 : w29.cell? ⟨gb310,1,none⟩ = some (.slice A0_1 l0_1.length c0_1):=(blk_cell BK310.out 1).trans rfl;have hcz33_2 : w29.cell? ⟨gb310,2,none⟩ = some (.slice A0_2 l0_2.length c0_2):=(blk_cell BK310.out 2).trans rfl;have hcz33_3 : w29.cell? ⟨gb310,3,none⟩ = some (.int .i64 a0_3):=(blk_cell BK310.out 3).trans rfl;have hcz33_4 : w29.cell? ⟨gb310,4,none⟩ = some (.slice A0_4 l0_4.length c0_4):=(blk_cell BK310.out 4).trans rfl;have hfz33_0:=blk_frozen BK310.out 0;have hfz33_1:=blk_frozen BK310.out 1;have hfz33_2:=blk_frozen BK310.out 2;have hfz33_3:=blk_frozen BK310.out 3;have hfz33_4:=blk_frozen BK310.out 4))
   go_meet
   case rel=>exact ⟨_,(true),(by first | rfl | (simp;done) | (simp [*];done)),H',⟨by first | omega | exact Nat.le_refl _⟩,⟨rr HO315.out⟩,⟨rr HO318.out⟩,⟨rr HO321.out⟩,⟨rr HO325.out⟩,⟨rk BK310.out⟩,⟨rk BK311.out⟩,⟨rk BK312.out⟩,⟨rk BK326.out⟩,⟨rbx HB⟩⟩
  rw [if_neg c24] at H
  have c24b0 : decide ((l0_1.length : Int) ≤ a1_1) = false:=decide_eq_false c24
  clear c24
  have H':=ak H
  clear H
  have hnb34:=NB311_310.out
  have hnc34:=NB310_311.out
  have hnb35:=NB311_312.out
  have hnc35:=NB312_311.out
  have hnb36:=NB311_326.out
  have hnc36:=NB326_311.out
  have hz37:=bc7 BK311
  go_wp2_with (first | ((with_reducible refine gc (f:=126) rfl ?_);refine gl (some 12) Try.func126 #[.agg #[.int .i64 a1_0,.int .i64 a1_1,.int .i64 a1_2,.int .i64 a1_3,.int .i64 a1_4,.int .i64 a1_5,.int .i64 a1_6]] ?_;(with_reducible refine (spec_FrameOk.calls k a1_0 a1_1 a1_2 a1_3 a1_4 a1_5 a1_6 true _ A21.out).mono ?_);rintro e w38 ⟨rfl,hb⟩;refine ⟨_,rfl,?_⟩;have n_ : _∧_∧_∧_∧_∧_∧_∧_∧_:=⟨kaf HO315 hb,kaf HO318 hb,kaf HO321 hb,kaf HO325 hb,kp #[.slice A0_0 l0_0.length c0_0,.slice A0_1 l0_1.length c0_1,.slice A0_2 l0_2.length c0_2,.int .i64 a0_3,.slice A0_4 l0_4.length c0_4] BK310 hb,kp #[.int .i64 a1_0,.int .i64 a1_1,.int .i64 a1_2,.int .i64 a1_3,.int .i64 a1_4,.int .i64 a1_5,.int .i64 a1_6] BK311 hb,kp #[.slice none 0 0,.slice none 0 0,.slice none 0 0,.int .i64 0,.slice none 0 0] BK312 hb,kp #[.slice Ao13 t313.length co13,.slice Ao18 t316.length co18,.slice Ao19 t319.length co19,.int .i64 t322,.slice Ao20 t323.length co20] BK326 hb,kh HB hb⟩;clear HO315 HO318 HO321 HO325 BK310 BK311 BK312 BK326 HB;obtain ⟨HO315,HO318,HO321,HO325,BK310,BK311,BK312,BK326,HB⟩:=n_;(try clear hb);(try clear hb2);(try clear hk);(try clear hi);have hcz39_0 : w38.cell? ⟨gb311,0,none⟩ = some (.int .i64 a1_0):=(blk_cell BK311.out 0).trans rfl;have hcz39_1 : w38.cell? ⟨gb311,1,none⟩ = some (.int .i64 a1_1):=(blk_cell BK311.out 1).trans rfl;have hcz39_2 : w38.cell? ⟨gb311,2,none⟩ = some (.int .i64 a1_2):=(blk_cell BK311.out 2).trans rfl;have hcz39_3 : w38.cell? ⟨gb311,3,none⟩ = some (.int .i64 a1_3):=(blk_cell BK311.out 3).trans rfl;have hcz39_4 : w38.cell? ⟨gb311,4,none⟩ = some (.int .i64 a1_4):=(blk_cell BK311.out 4).trans rfl;have hcz39_5 : w38.cell? ⟨gb311,5,none⟩ = some (.int .i64 a1_5):=(blk_cell BK311.out 5).trans rfl;have hcz39_6 : w38.cell? ⟨gb311,6,none⟩ = some (.int .i64 a1_6):=(blk_cell BK311.out 6).trans rfl;have hfz39_0:=blk_frozen BK311.out 0;have hfz39_1:=blk_frozen BK311.out 1;have hfz39_2:=blk_frozen BK311.out 2;have hfz39_3:=blk_frozen BK311.out 3;have hfz39_4:=blk_frozen BK311.out 4;have hfz39_5:=blk_frozen BK311.out 5;have hfz39_6:=blk_frozen BK311.out 6;have hnb40:=NB310_312.out;have hnc40:=NB312_310.out;have hnb41:=NB310_326.out;have hnc41:=NB326_310.out;have hcz42_0 : w38.cell? ⟨gb310,0,none⟩ = some (.slice A0_0 l0_0.length c0_0):=(blk_cell BK310.out 0).trans rfl;have hcz42_1 : w38.cell? ⟨gb310,1,none⟩ = some (.slice A0_1 l0_1.length c0_1):=(blk_cell BK310.out 1).trans rfl;have hcz42_2 : w38.cell? ⟨gb310,2,none⟩ = some (.slice A0_2 l0_2.length c0_2):=(blk_cell BK310.out 2).trans rfl;have hcz42_3 : w38.cell? ⟨gb310,3,none⟩ = some (.int .i64 a0_3):=(blk_cell BK310.out 3).trans rfl;have hcz42_4 : w38.cell? ⟨gb310,4,none⟩ = some (.slice A0_4 l0_4.length c0_4):=(blk_cell BK310.out 4).trans rfl;have hfz42_0:=blk_frozen BK310.out 0;have hfz42_1:=blk_frozen BK310.out 1;have hfz42_2:=blk_frozen BK310.out 2;have hfz42_3:=blk_frozen BK310.out 3;have hfz42_4:=blk_frozen BK310.out 4))
  go_meet
  case rel=>exact ⟨_,(decide ((l0_0.length : Int) ≥ 200)),(by first | rfl | (simp;done) | (simp [*];done)),H',⟨by first | omega | exact Nat.le_refl _⟩,⟨rr HO315.out⟩,⟨rr HO318.out⟩,⟨rr HO321.out⟩,⟨rr HO325.out⟩,⟨rk BK310.out⟩,⟨rk BK311.out⟩,⟨rk BK312.out⟩,⟨rk BK326.out⟩,⟨rbx HB⟩⟩
 case rest =>
  clear HC4
  try clear c1
  try clear c2
  try clear p2
  try clear c3
  try clear c4
  try clear c5
  try clear c7
  try clear c8
  try clear c9
  try clear c12
  try clear c14
  try clear c15
  try clear c16
  try clear c22
  try clear c23
  try clear c23b0
  try clear c23b1
  try clear c24
  try clear c24b0
  try clear c25
  try clear c26
  try clear c27
  try clear c31
  try clear c32
  try clear c34
  try clear c35
  try clear c36
  try clear c40
  try clear c41
  try clear c43
  try clear c44
  try clear c45
  try clear c49
  try clear c50
  try clear c51
  try clear hcz10_0
  try clear hcz10_1
  try clear hcz10_2
  try clear hcz10_3
  try clear hcz10_4
  try clear hcz17_0
  try clear hcz17_1
  try clear hcz17_2
  try clear hcz17_3
  try clear hcz17_4
  try clear hz28
  try clear hcz30_0
  try clear hcz30_1
  try clear hcz30_2
  try clear hcz30_3
  try clear hcz30_4
  try clear hcz30_5
  try clear hcz30_6
  try clear hcz33_0
  try clear hcz33_1
  try clear hcz33_2
  try clear hcz33_3
  try clear hcz33_4
  try clear hz37
  try clear hcz39_0
  try clear hcz39_1
  try clear hcz39_2
  try clear hcz39_3
  try clear hcz39_4
  try clear hcz39_5
  try clear hcz39_6
  try clear hcz42_0
  try clear hcz42_1
  try clear hcz42_2
  try clear hcz42_3
  try clear hcz42_4
  try clear hz46
  try clear hcz48_0
  try clear hcz48_1
  try clear hcz48_2
  try clear hcz48_3
  try clear hcz48_4
  try clear hcz48_5
  try clear hcz48_6
  try clear hz52
  try clear hfz10_0
  try clear hfz10_1
  try clear hfz10_2
  try clear hfz10_3
  try clear hfz10_4
  try clear hfz17_0
  try clear hfz17_1
  try clear hfz17_2
  try clear hfz17_3
  try clear hfz17_4
  try clear hfz30_0
  try clear hfz30_1
  try clear hfz30_2
  try clear hfz30_3
  try clear hfz30_4
  try clear hfz30_5
  try clear hfz30_6
  try clear hfz33_0
  try clear hfz33_1
  try clear hfz33_2
  try clear hfz33_3
  try clear hfz33_4
  try clear hfz39_0
  try clear hfz39_1
  try clear hfz39_2
  try clear hfz39_3
  try clear hfz39_4
  try clear hfz39_5
  try clear hfz39_6
  try clear hfz42_0
  try clear hfz42_1
  try clear hfz42_2
  try clear hfz42_3
  try clear hfz42_4
  try clear hfz48_0
  try clear hfz48_1
  try clear hfz48_2
  try clear hfz48_3
  try clear hfz48_4
  try clear hfz48_5
  try clear hfz48_6
  obtain ⟨kq,x32_3,rfl,HA,HJ3,HO_327000,HO_327001,HO_327002,HO_327004,BK310,BK311,BK312,BK326,HB⟩:=hcut
  cases kq with
  | zero=>exact absurd HA.out (by simp [spec_Kept.j0])
  | succ kj3 =>
   have H:=HA.out
   clear HA
   simp only [spec_Kept.j0] at H
   by_cases c54 : x32_3 = true
   ·subst c54
    have H1 : (some (t313,t316,t319,t322,t323,false)) = some (r1,r2,r3,r4,r5,r6):=by rw [if_pos rfl] at H;exact H
    clear H
    have H:=H1
    clear H1
    simp only [Option.some.injEq,Prod.mk.injEq] at H
    obtain ⟨rfl,rfl,rfl,rfl,rfl,rfl⟩:=H
    have hnb55:=NB326_310.out
    have hnc55:=NB310_326.out
    have hnb56:=NB326_311.out
    have hnc56:=NB311_326.out
    have hnb57:=NB326_312.out
    have hnc57:=NB312_326.out
    have hz58:=bc5 BK326
    have hnb59:=NB312_310.out
    have hnc59:=NB310_312.out
    have hnb60:=NB312_311.out
    have hnc60:=NB311_312.out
    have hz61:=bc5 BK312
    go_wp2
    refine bodyPost_ret (results_ct rfl _ _ gb312 51 #[.slice Ao13 t313.length co13,.slice Ao18 t316.length co18,.slice Ao19 t319.length co19,.int .i64 t322,.slice Ao20 t323.length co20] (0,0) _ rfl (kq BK312) Try.underlying51 rfl (by kernel_rfl)) rfl ?_
    exact ⟨_,_,_,_,by first | rfl | (simp [errW_none,errW_some] <;> rfl) | (simp [*,errW_none,errW_some] <;> rfl),rfa HO_327000,rfa HO_327001,rfa HO_327002,rfa HO_327004,rbx HB⟩
   replace c54:=Bool.eq_false_iff.mpr c54
   subst c54
   rw [if_neg (show ¬ (false = true) by decide)] at H
   by_cases c62 : 0 ≤ a1_1
   rotate_left
   ·rw [if_neg c62] at H
    exact absurd H (by simp)
   rw [if_pos c62] at H
   have c62b0 : decide (0 ≤ a1_1) = true:=decide_eq_true c62
   clear c62
   by_cases c63 : a1_1 < (l0_1.length : Int)
   rotate_left
   ·rw [if_neg c63] at H
    exact absurd H (by simp)
   rw [if_pos c63] at H
   have c63b0 : decide (a1_1 < (l0_1.length : Int)) = true:=decide_eq_true c63
   clear c63
   by_cases c64 : a1_2 = (rd l0_1 a1_1)
   rotate_left
   ·rw [if_neg c64] at H
    have c64b0 : (a1_2 == (rd l0_1 a1_1)) = false:=beq_eq_false_iff_ne.mpr c64
    have c64b1 : (a1_2 != (rd l0_1 a1_1)) = true:=bne_iff_ne.mpr c64
    by_cases c150 : a1_2 > (rd l0_1 a1_1)
    rotate_left
    ·rw [if_neg c150] at H
     have c150b0 : decide ((rd l0_1 a1_1) < a1_2) = false:=decide_eq_false c150
     clear c150
     simp only [Option.some.injEq,Prod.mk.injEq] at H
     obtain ⟨rfl,rfl,rfl,rfl,rfl,rfl⟩:=H
     have hnb202:=NB310_311.out
     have hnc202:=NB311_310.out
     have hnb203:=NB310_312.out
     have hnc203:=NB312_310.out
     have hnb204:=NB310_326.out
     have hnc204:=NB326_310.out
     have hz205:=bc5 BK310
     have hnb206:=NB311_312.out
     have hnc206:=NB312_311.out
     have hnb207:=NB311_326.out
     have hnc207:=NB326_311.out
     have hz208:=bc7 BK311
     have p328 : 0 ≤ (a1_1 : Int):=of_decide_eq_true (by first | (with_reducible assumption) | assumption)
     have q328 : a1_1 < (l0_1.length : Int):=of_decide_eq_true (by first | (with_reducible assumption) | assumption)
     obtain ⟨ad328,e328,hx328_0⟩:=Kd.at_int HR0_1.out a1_1 p328 q328
     cases e328
     replace hx328_0:=(HB.out.cell (World.block_lt_of_cell? w _ hx328_0)).trans hx328_0
     replace p328:=eq_true p328
     replace q328:=eq_true q328
     have hnb209:=NB326_312.out
     have hnc209:=NB312_326.out
     have hz210:=bc5 BK326
     have hz211:=bc5 BK312
     go_wp2
     refine bodyPost_ret (results_ct rfl _ _ gb312 51 #[.slice Ao13 t313.length co13,.slice Ao18 t316.length co18,.slice Ao19 t319.length co19,.int .i64 t322,.slice Ao20 t323.length co20] (0,0) _ rfl (kq BK312) Try.underlying51 rfl (by kernel_rfl)) rfl ?_
     exact ⟨_,_,_,_,by first | rfl | (simp [errW_none,errW_some] <;> rfl) | (simp [*,errW_none,errW_some] <;> rfl),rfa HO_327000,rfa HO_327001,rfa HO_327002,rfa HO_327004,rbx HB⟩
    rw [if_pos c150] at H
    have c150b0 : decide ((rd l0_1 a1_1) < a1_2) = true:=decide_eq_true c150
    clear c150
    by_cases c151 : (wrap64 (a1_2 - 3)) ≤ (rd l0_1 a1_1)
    rotate_left
    ·rw [if_neg c151] at H
     have c151b0 : decide ((wrap64 (a1_2 - 3)) ≤ (rd l0_1 a1_1)) = false:=decide_eq_false c151
     clear c151
     simp only [Option.some.injEq,Prod.mk.injEq] at H
     obtain ⟨rfl,rfl,rfl,rfl,rfl,rfl⟩:=H
     have hnb192:=NB310_311.out
     have hnc192:=NB311_310.out
     have hnb193:=NB310_312.out
     have hnc193:=NB312_310.out
     have hnb194:=NB310_326.out
     have hnc194:=NB326_310.out
     have hz195:=bc5 BK310
     have hnb196:=NB311_312.out
     have hnc196:=NB312_311.out
     have hnb197:=NB311_326.out
     have hnc197:=NB326_311.out
     have hz198:=bc7 BK311
     have p328 : 0 ≤ (a1_1 : Int):=of_decide_eq_true (by first | (with_reducible assumption) | assumption)
     have q328 : a1_1 < (l0_1.length : Int):=of_decide_eq_true (by first | (with_reducible assumption) | assumption)
     obtain ⟨ad328,e328,hx328_0⟩:=Kd.at_int HR0_1.out a1_1 p328 q328
     cases e328
     replace hx328_0:=(HB.out.cell (World.block_lt_of_cell? w _ hx328_0)).trans hx328_0
     replace p328:=eq_true p328
     replace q328:=eq_true q328
     have hnb199:=NB326_312.out
     have hnc199:=NB312_326.out
     have hz200:=bc5 BK326
     have hz201:=bc5 BK312
     go_wp2
     refine bodyPost_ret (results_ct rfl _ _ gb312 51 #[.slice Ao13 t313.length co13,.slice Ao18 t316.length co18,.slice Ao19 t319.length co19,.int .i64 t322,.slice Ao20 t323.length co20] (0,0) _ rfl (kq BK312) Try.underlying51 rfl (by kernel_rfl)) rfl ?_
     exact ⟨_,_,_,_,by first | rfl | (simp [errW_none,errW_some] <;> rfl) | (simp [*,errW_none,errW_some] <;> rfl),rfa HO_327000,rfa HO_327001,rfa HO_327002,rfa HO_327004,rbx HB⟩
    rw [if_pos c151] at H
    have c151b0 : decide ((wrap64 (a1_2 - 3)) ≤ (rd l0_1 a1_1)) = true:=decide_eq_true c151
    clear c151
    replace H:=Option.bind_eq_some_iff.mp H
    obtain ⟨t329,A1520,H⟩:=H
    try dsimp only at H
    have A152:=ak A1520
    clear A1520
    by_cases c153 : t329 < 0
    rotate_left
    ·rw [if_neg c153] at H
     have c153b0 : decide (t329 < 0) = false:=decide_eq_false c153
     clear c153
     simp only [Option.some.injEq,Prod.mk.injEq] at H
     obtain ⟨rfl,rfl,rfl,rfl,rfl,rfl⟩:=H
     have hnb182:=NB310_311.out
     have hnc182:=NB311_310.out
     have hnb183:=NB310_312.out
     have hnc183:=NB312_310.out
     have hnb184:=NB310_326.out
     have hnc184:=NB326_310.out
     have hz185:=bc5 BK310
     have hnb186:=NB311_312.out
     have hnc186:=NB312_311.out
     have hnb187:=NB311_326.out
     have hnc187:=NB326_311.out
     have hz188:=bc7 BK311
     have p328 : 0 ≤ (a1_1 : Int):=of_decide_eq_true (by first | (with_reducible assumption) | assumption)
     have q328 : a1_1 < (l0_1.length : Int):=of_decide_eq_true (by first | (with_reducible assumption) | assumption)
     obtain ⟨ad328,e328,hx328_0⟩:=Kd.at_int HR0_1.out a1_1 p328 q328
     cases e328
     replace hx328_0:=(HB.out.cell (World.block_lt_of_cell? w _ hx328_0)).trans hx328_0
     replace p328:=eq_true p328
     replace q328:=eq_true q328
     go_wp2_with (first | (go_at_call 103;(with_reducible refine (spec_l20Early.calls kj3 _ _ l0_2 a1_1 a1_2 t329 _ ?side1 ?side2 A152.out).mono ?_);(case side1=>exact rc (Kd.C_below HR0_2.out HB.out));(case side2=>exact HC0_2.out);rintro e w' ⟨rfl,⟨nd,rfl⟩⟩;(try (rw [drewN_self wc];generalize hq_ : World.drewN wc _ = wc;have n0_ : Aside0 (Kd.R k134 134 wc w.heap.size (fun _=>True) (.slice Ao13 t313.length co13) t313):=⟨by rw [← hq_];exact (rr HO_327000.out)⟩;have n1_ : Aside0 (Kd.R (Kd.int .i64) 3 wc w.heap.size (fun k_=>some k_ ≠ (.slice Ao20 t323.length co20 : Value).ownBlock) (.slice Ao18 t316.length co18) t316):=⟨by rw [← hq_];exact (rr HO_327001.out)⟩;have n2_ : Aside0 (Kd.R k127 127 wc w.heap.size (fun _=>True) (.slice Ao19 t319.length co19) t319):=⟨by rw [← hq_];exact (rr HO_327002.out)⟩;have n3_ : Aside0 (Kd.R (Kd.int .i64) 3 wc w.heap.size (fun k_=>some k_ ≠ (.slice Ao18 t316.length co18 : Value).ownBlock) (.slice Ao20 t323.length co20) t323):=⟨by rw [← hq_];exact (rr HO_327004.out)⟩;have n4_ : Aside0 (wc.heap[gb310]? = some (.cells #[.slice A0_0 l0_0.length c0_0,.slice (some ad328) l0_1.length c0_1,.slice A0_2 l0_2.length c0_2,.int .i64 a0_3,.slice A0_4 l0_4.length c0_4] 51 (0,0))):=⟨by rw [← hq_];exact (rk BK310.out)⟩;have n5_ : Aside0 (wc.heap[gb311]? = some (.cells #[.int .i64 a1_0,.int .i64 a1_1,.int .i64 a1_2,.int .i64 a1_3,.int .i64 a1_4,.int .i64 a1_5,.int .i64 a1_6] 36 (0,0))):=⟨by rw [← hq_];exact (rk BK311.out)⟩;have n6_ : Aside0 (wc.heap[gb312]? = some (.cells #[.slice none 0 0,.slice none 0 0,.slice none 0 0,.int .i64 0,.slice none 0 0] 51 (0,0))):=⟨by rw [← hq_];exact (rk BK312.out)⟩;have n7_ : Aside0 (wc.heap[gb326]? = some (.cells #[.slice Ao13 t313.length co13,.slice Ao18 t316.length co18,.slice Ao19 t319.length co19,.int .i64 t322,.slice Ao20 t323.length co20] 51 (0,0))):=⟨by rw [← hq_];exact (rk BK326.out)⟩;have n8_ : Aside0 (Below w.heap.size w wc):=⟨by rw [← hq_];exact (rb4 GE310.out GE311.out GE312.out GE326.out HB.out)⟩;clear HO_327000 HO_327001 HO_327002 HO_327004 BK310 BK311 BK312 BK326 HB hq_;have HO_327000:=n0_;have HO_327001:=n1_;have HO_327002:=n2_;have HO_327004:=n3_;have BK310:=n4_;have BK311:=n5_;have BK312:=n6_;have BK326:=n7_;have HB:=n8_;clear n0_ n1_ n2_ n3_ n4_ n5_ n6_ n7_ n8_));have hnb189:=NB326_312.out;have hnc189:=NB312_326.out;have hcz190_0 : wc.cell? ⟨gb326,0,none⟩ = some (.slice Ao13 t313.length co13):=(blk_cell BK326.out 0).trans rfl;have hcz190_1 : wc.cell? ⟨gb326,1,none⟩ = some (.slice Ao18 t316.length co18):=(blk_cell BK326.out 1).trans rfl;have hcz190_2 : wc.cell? ⟨gb326,2,none⟩ = some (.slice Ao19 t319.length co19):=(blk_cell BK326.out 2).trans rfl;have hcz190_3 : wc.cell? ⟨gb326,3,none⟩ = some (.int .i64 t322):=(blk_cell BK326.out 3).trans rfl;have hcz190_4 : wc.cell? ⟨gb326,4,none⟩ = some (.slice Ao20 t323.length co20):=(blk_cell BK326.out 4).trans rfl;have hfz190_0:=blk_frozen BK326.out 0;have hfz190_1:=blk_frozen BK326.out 1;have hfz190_2:=blk_frozen BK326.out 2;have hfz190_3:=blk_frozen BK326.out 3;have hfz190_4:=blk_frozen BK326.out 4;have hcz191_0 : wc.cell? ⟨gb312,0,none⟩ = some (.slice none 0 0):=(blk_cell BK312.out 0).trans rfl;have hcz191_1 : wc.cell? ⟨gb312,1,none⟩ = some (.slice none 0 0):=(blk_cell BK312.out 1).trans rfl;have hcz191_2 : wc.cell? ⟨gb312,2,none⟩ = some (.slice none 0 0):=(blk_cell BK312.out 2).trans rfl;have hcz191_3 : wc.cell? ⟨gb312,3,none⟩ = some (.int .i64 0):=(blk_cell BK312.out 3).trans rfl;have hcz191_4 : wc.cell? ⟨gb312,4,none⟩ = some (.slice none 0 0):=(blk_cell BK312.out 4).trans rfl;have hfz191_0:=blk_frozen BK312.out 0;have hfz191_1:=blk_frozen BK312.out 1;have hfz191_2:=blk_frozen BK312.out 2;have hfz191_3:=blk_frozen BK312.out 3;have hfz191_4:=blk_frozen BK312.out 4))
     refine bodyPost_ret (results_ct rfl _ _ gb312 51 #[.slice Ao13 t313.length co13,.slice Ao18 t316.length co18,.slice Ao19 t319.length co19,.int .i64 t322,.slice Ao20 t323.length co20] (0,0) _ rfl (kq BK312) Try.underlying51 rfl (by kernel_rfl)) rfl ?_
     exact ⟨_,_,_,_,by first | rfl | (simp [errW_none,errW_some] <;> rfl) | (simp [*,errW_none,errW_some] <;> rfl),rfa HO_327000,rfa HO_327001,rfa HO_327002,rfa HO_327004,rbx HB⟩
    rw [if_pos c153] at H
    have c153b0 : decide (t329 < 0) = true:=decide_eq_true c153
    clear c153
    by_cases c154 : (l0_2.length : Int) < 3
    ·rw [if_pos c154] at H
     have c154b0 : decide ((l0_2.length : Int) < 3) = true:=decide_eq_true c154
     have c154b1 : decide (l0_2.length < 3) = true:=decide_eq_true (by omega)
     clear c154
     by_cases c155 : t319.length < 2932031007402
     rotate_left
     ·rw [if_neg c155] at H
      exact absurd H (by simp)
     rw [if_pos c155] at H
     have LMc155:=ak c155
     clear c155
     obtain ⟨y330,hy330⟩ : ∃ y_ : List (S127),y_ = (t319 ++ [(⟨a1_1,a1_2,(⟨a1_3,a1_4,a1_5,a1_6⟩ : S34)⟩ : S127)]):=⟨_,rfl⟩
     replace H : (some (t313,t316,y330,t322,t323,false)) = some (r1,r2,r3,r4,r5,r6):=by first | (rw [hy330];with_reducible exact H) | (have H2_:=(Option.bind_some _ _).symm.trans H;rw [hy330];with_reducible exact H2_) | (have H2_:=(Option.bind_some _ _).symm.trans H;with_reducible exact H2_) | with_reducible exact H | (rw [hy330];exact H) | exact H
     have Ny330:=ak hy330
     clear hy330
     simp only [Option.some.injEq,Prod.mk.injEq] at H
     obtain ⟨rfl,rfl,rfl,rfl,rfl,rfl⟩:=H
     have hnb156:=NB310_311.out
     have hnc156:=NB311_310.out
     have hnb157:=NB310_312.out
     have hnc157:=NB312_310.out
     have hnb158:=NB310_326.out
     have hnc158:=NB326_310.out
     have hz159:=bc5 BK310
     have hnb160:=NB311_312.out
     have hnc160:=NB312_311.out
     have hnb161:=NB311_326.out
     have hnc161:=NB326_311.out
     have hz162:=bc7 BK311
     have p328 : 0 ≤ (a1_1 : Int):=of_decide_eq_true (by first | (with_reducible assumption) | assumption)
     have q328 : a1_1 < (l0_1.length : Int):=of_decide_eq_true (by first | (with_reducible assumption) | assumption)
     obtain ⟨ad328,e328,hx328_0⟩:=Kd.at_int HR0_1.out a1_1 p328 q328
     cases e328
     replace hx328_0:=(HB.out.cell (World.block_lt_of_cell? w _ hx328_0)).trans hx328_0
     replace p328:=eq_true p328
     replace q328:=eq_true q328
     go_wp2_with (first | (go_at_call 103;(with_reducible refine (spec_l20Early.calls kj3 _ _ l0_2 a1_1 a1_2 t329 _ ?side1 ?side2 A152.out).mono ?_);(case side1=>exact rc (Kd.C_below HR0_2.out HB.out));(case side2=>exact HC0_2.out);rintro e w' ⟨rfl,⟨nd,rfl⟩⟩;(try (rw [drewN_self wc];generalize hq_ : World.drewN wc _ = wc;have n0_ : Aside0 (Kd.R k134 134 wc w.heap.size (fun _=>True) (.slice Ao13 t313.length co13) t313):=⟨by rw [← hq_];exact (rr HO_327000.out)⟩;have n1_ : Aside0 (Kd.R (Kd.int .i64) 3 wc w.heap.size (fun k_=>some k_ ≠ (.slice Ao20 t323.length co20 : Value).ownBlock) (.slice Ao18 t316.length co18) t316):=⟨by rw [← hq_];exact (rr HO_327001.out)⟩;have n2_ : Aside0 (Kd.R k127 127 wc w.heap.size (fun _=>True) (.slice Ao19 t319.length co19) t319):=⟨by rw [← hq_];exact (rr HO_327002.out)⟩;have n3_ : Aside0 (Kd.R (Kd.int .i64) 3 wc w.heap.size (fun k_=>some k_ ≠ (.slice Ao18 t316.length co18 : Value).ownBlock) (.slice Ao20 t323.length co20) t323):=⟨by rw [← hq_];exact (rr HO_327004.out)⟩;have n4_ : Aside0 (wc.heap[gb310]? = some (.cells #[.slice A0_0 l0_0.length c0_0,.slice (some ad328) l0_1.length c0_1,.slice A0_2 l0_2.length c0_2,.int .i64 a0_3,.slice A0_4 l0_4.length c0_4] 51 (0,0))):=⟨by rw [← hq_];exact (rk BK310.out)⟩;have n5_ : Aside0 (wc.heap[gb311]? = some (.cells #[.int .i64 a1_0,.int .i64 a1_1,.int .i64 a1_2,.int .i64 a1_3,.int .i64 a1_4,.int .i64 a1_5,.int .i64 a1_6] 36 (0,0))):=⟨by rw [← hq_];exact (rk BK311.out)⟩;have n6_ : Aside0 (wc.heap[gb312]? = some (.cells #[.slice none 0 0,.slice none 0 0,.slice none 0 0,.int .i64 0,.slice none 0 0] 51 (0,0))):=⟨by rw [← hq_];exact (rk BK312.out)⟩;have n7_ : Aside0 (wc.heap[gb326]? = some (.cells #[.slice Ao13 t313.length co13,.slice Ao18 t316.length co18,.slice Ao19 t319.length co19,.int .i64 t322,.slice Ao20 t323.length co20] 51 (0,0))):=⟨by rw [← hq_];exact (rk BK326.out)⟩;have n8_ : Aside0 (Below w.heap.size w wc):=⟨by rw [← hq_];exact (rb4 GE310.out GE311.out GE312.out GE326.out HB.out)⟩;clear HO_327000 HO_327001 HO_327002 HO_327004 BK310 BK311 BK312 BK326 HB hq_;have HO_327000:=n0_;have HO_327001:=n1_;have HO_327002:=n2_;have HO_327004:=n3_;have BK310:=n4_;have BK311:=n5_;have BK312:=n6_;have BK326:=n7_;have HB:=n8_;clear n0_ n1_ n2_ n3_ n4_ n5_ n6_ n7_ n8_));have hcz163_0 : wc.cell? ⟨gb310,0,none⟩ = some (.slice A0_0 l0_0.length c0_0):=(blk_cell BK310.out 0).trans rfl;have hcz163_1 : wc.cell? ⟨gb310,1,none⟩ = some (.slice (some ad328) l0_1.length c0_1):=(blk_cell BK310.out 1).trans rfl;have hcz163_2 : wc.cell? ⟨gb310,2,none⟩ = some (.slice A0_2 l0_2.length c0_2):=(blk_cell BK310.out 2).trans rfl;have hcz163_3 : wc.cell? ⟨gb310,3,none⟩ = some (.int .i64 a0_3):=(blk_cell BK310.out 3).trans rfl;have hcz163_4 : wc.cell? ⟨gb310,4,none⟩ = some (.slice A0_4 l0_4.length c0_4):=(blk_cell BK310.out 4).trans rfl;have hfz163_0:=blk_frozen BK310.out 0;have hfz163_1:=blk_frozen BK310.out 1;have hfz163_2:=blk_frozen BK310.out 2;have hfz163_3:=blk_frozen BK310.out 3;have hfz163_4:=blk_frozen BK310.out 4;have hnb164:=NB326_312.out;have hnc164:=NB312_326.out;have hcz165_0 : wc.cell? ⟨gb326,0,none⟩ = some (.slice Ao13 t313.length co13):=(blk_cell BK326.out 0).trans rfl;have hcz165_1 : wc.cell? ⟨gb326,1,none⟩ = some (.slice Ao18 t316.length co18):=(blk_cell BK326.out 1).trans rfl;have hcz165_2 : wc.cell? ⟨gb326,2,none⟩ = some (.slice Ao19 t319.length co19):=(blk_cell BK326.out 2).trans rfl;have hcz165_3 : wc.cell? ⟨gb326,3,none⟩ = some (.int .i64 t322):=(blk_cell BK326.out 3).trans rfl;have hcz165_4 : wc.cell? ⟨gb326,4,none⟩ = some (.slice Ao20 t323.length co20):=(blk_cell BK326.out 4).trans rfl;have hfz165_0:=blk_frozen BK326.out 0;have hfz165_1:=blk_frozen BK326.out 1;have hfz165_2:=blk_frozen BK326.out 2;have hfz165_3:=blk_frozen BK326.out 3;have hfz165_4:=blk_frozen BK326.out 4;have hcz166_0 : wc.cell? ⟨gb311,0,none⟩ = some (.int .i64 a1_0):=(blk_cell BK311.out 0).trans rfl;have hcz166_1 : wc.cell? ⟨gb311,1,none⟩ = some (.int .i64 a1_1):=(blk_cell BK311.out 1).trans rfl;have hcz166_2 : wc.cell? ⟨gb311,2,none⟩ = some (.int .i64 a1_2):=(blk_cell BK311.out 2).trans rfl;have hcz166_3 : wc.cell? ⟨gb311,3,none⟩ = some (.int .i64 a1_3):=(blk_cell BK311.out 3).trans rfl;have hcz166_4 : wc.cell? ⟨gb311,4,none⟩ = some (.int .i64 a1_4):=(blk_cell BK311.out 4).trans rfl;have hcz166_5 : wc.cell? ⟨gb311,5,none⟩ = some (.int .i64 a1_5):=(blk_cell BK311.out 5).trans rfl;have hcz166_6 : wc.cell? ⟨gb311,6,none⟩ = some (.int .i64 a1_6):=(blk_cell BK311.out 6).trans rfl;have hfz166_0:=blk_frozen BK311.out 0;have hfz166_1:=blk_frozen BK311.out 1;have hfz166_2:=blk_frozen BK311.out 2;have hfz166_3:=blk_frozen BK311.out 3;have hfz166_4:=blk_frozen BK311.out 4;have hfz166_5:=blk_frozen BK311.out 5;have hfz166_6:=blk_frozen BK311.out 6) | ((with_reducible refine gate_builtin (b:=.append) (xs:=#[.tmp 72,.tmp 80]) rfl ?_);(try (refine gate_guard (by rfl) ?_;dsimp only));at_builtin;refine Kd.R_append k127 (w0:=w) w.heap.size rfl (.tmp 72) (.tmp 80) 49 127 (.agg #[(.int .i64 0),(.int .i64 0),(.int .i64 0),(.int .i64 0),(.int .i64 0),(.int .i64 0)]) 48 rfl Try.underlying49 info127 rfl (by decide) (by omega) (.slice Ao19 t319.length co19) t319 (⟨a1_1,a1_2,(⟨a1_3,a1_4,a1_5,a1_6⟩ : S34)⟩ : S127) [.int .i64 a1_1,.int .i64 a1_2,.int .i64 a1_3,.int .i64 a1_4,.int .i64 a1_5,.int .i64 a1_6] (fun _=>True) (fun _=>False) rfl rfl ?aP (fun _ hk=>hk.elim) ?aF ?aO ?aB ?aS ?aL ?_;(case aP=>exact k127_mkM _ _ _ (⟨a1_1,a1_2,(⟨a1_3,a1_4,a1_5,a1_6⟩ : S34)⟩ : S127));(case aB=>exact (rb4 GE310.out GE311.out GE312.out GE326.out HB.out));(case aF=>exact (fun _ _=>trivial));(case aO=>exact (rr HO_327002.out));(case aS=>exact (below_size (rb4 GE310.out GE311.out GE312.out GE326.out HB.out)));(case aL=>have:=LMc155.out;omega);intro v331 w167 ho hb hg hat;rw [← Ny330.out] at ho;have n_ : _∧_∧_∧_∧_∧_∧_∧_∧_:=⟨ak (Kd.R_over' (rr HO_327000.out) (Kd.R_typed (rr HO_327002.out)) (by decide) hg),ak (Kd.R_over' (rr HO_327001.out) (Kd.R_typed (rr HO_327002.out)) (by decide) hg),ak (Kd.R_over' (rr HO_327004.out) (Kd.R_typed (rr HO_327002.out)) (by decide) hg),kg BK310 HO_327002 hg,kg BK311 HO_327002 hg,kg BK312 HO_327002 hg,kg BK326 HO_327002 hg,ak (hb),ak (ho)⟩;clear HO_327000 HO_327001 HO_327004 BK310 BK311 BK312 BK326 HB HO_327002 ho hb hg hat;obtain ⟨HO_327000,HO_327001,HO_327004,BK310,BK311,BK312,BK326,HB,HO332⟩:=n_;obtain ⟨Ao168,co168,eo168⟩:=Kd.R_slice HO332.out;subst eo168;have hcz169_0 : w167.cell? ⟨gb326,0,none⟩ = some (.slice Ao13 t313.length co13):=(blk_cell BK326.out 0).trans rfl;have hcz169_1 : w167.cell? ⟨gb326,1,none⟩ = some (.slice Ao18 t316.length co18):=(blk_cell BK326.out 1).trans rfl;have hcz169_2 : w167.cell? ⟨gb326,2,none⟩ = some (.slice Ao19 t319.length co19):=(blk_cell BK326.out 2).trans rfl;have hcz169_3 : w167.cell? ⟨gb326,3,none⟩ = some (.int .i64 t322):=(blk_cell BK326.out 3).trans rfl;have hcz169_4 : w167.cell? ⟨gb326,4,none⟩ = some (.slice Ao20 t323.length co20):=(blk_cell BK326.out 4).trans rfl;have hfz169_0:=blk_frozen BK326.out 0;have hfz169_1:=blk_frozen BK326.out 1;have hfz169_2:=blk_frozen BK326.out 2;have hfz169_3:=blk_frozen BK326.out 3;have hfz169_4:=blk_frozen BK326.out 4;have hcz170_0 : w167.cell? ⟨gb312,0,none⟩ = some (.slice none 0 0):=(blk_cell BK312.out 0).trans rfl;have hcz170_1 : w167.cell? ⟨gb312,1,none⟩ = some (.slice none 0 0):=(blk_cell BK312.out 1).trans rfl;have hcz170_2 : w167.cell? ⟨gb312,2,none⟩ = some (.slice none 0 0):=(blk_cell BK312.out 2).trans rfl;have hcz170_3 : w167.cell? ⟨gb312,3,none⟩ = some (.int .i64 0):=(blk_cell BK312.out 3).trans rfl;have hcz170_4 : w167.cell? ⟨gb312,4,none⟩ = some (.slice none 0 0):=(blk_cell BK312.out 4).trans rfl;have hfz170_0:=blk_frozen BK312.out 0;have hfz170_1:=blk_frozen BK312.out 1;have hfz170_2:=blk_frozen BK312.out 2;have hfz170_3:=blk_frozen BK312.out 3;have hfz170_4:=blk_frozen BK312.out 4))
     refine bodyPost_ret (results_ct rfl _ _ gb312 51 #[.slice Ao13 t313.length co13,.slice Ao18 t316.length co18,.slice Ao168 y330.length co168,.int .i64 t322,.slice Ao20 t323.length co20] (0,0) _ rfl (kq BK312) Try.underlying51 rfl (by kernel_rfl)) rfl ?_
     exact ⟨_,_,_,_,by first | rfl | (simp [errW_none,errW_some] <;> rfl) | (simp [*,errW_none,errW_some] <;> rfl),rfa HO_327000,rfa HO_327001,rfa HO332,rfa HO_327004,rbx HB⟩
    rw [if_neg c154] at H
    have c154b0 : decide ((l0_2.length : Int) < 3) = false:=decide_eq_false c154
    have c154b1 : decide (l0_2.length < 3) = false:=decide_eq_false (by omega)
    clear c154
    simp only [Option.some.injEq,Prod.mk.injEq] at H
    obtain ⟨rfl,rfl,rfl,rfl,rfl,rfl⟩:=H
    have hnb171:=NB310_311.out
    have hnc171:=NB311_310.out
    have hnb172:=NB310_312.out
    have hnc172:=NB312_310.out
    have hnb173:=NB310_326.out
    have hnc173:=NB326_310.out
    have hz174:=bc5 BK310
    have hnb175:=NB311_312.out
    have hnc175:=NB312_311.out
    have hnb176:=NB311_326.out
    have hnc176:=NB326_311.out
    have hz177:=bc7 BK311
    have p328 : 0 ≤ (a1_1 : Int):=of_decide_eq_true (by first | (with_reducible assumption) | assumption)
    have q328 : a1_1 < (l0_1.length : Int):=of_decide_eq_true (by first | (with_reducible assumption) | assumption)
    obtain ⟨ad328,e328,hx328_0⟩:=Kd.at_int HR0_1.out a1_1 p328 q328
    cases e328
    replace hx328_0:=(HB.out.cell (World.block_lt_of_cell? w _ hx328_0)).trans hx328_0
    replace p328:=eq_true p328
    replace q328:=eq_true q328
    go_wp2_with (first | (go_at_call 103;(with_reducible refine (spec_l20Early.calls kj3 _ _ l0_2 a1_1 a1_2 t329 _ ?side1 ?side2 A152.out).mono ?_);(case side1=>exact rc (Kd.C_below HR0_2.out HB.out));(case side2=>exact HC0_2.out);rintro e w' ⟨rfl,⟨nd,rfl⟩⟩;(try (rw [drewN_self wc];generalize hq_ : World.drewN wc _ = wc;have n0_ : Aside0 (Kd.R k134 134 wc w.heap.size (fun _=>True) (.slice Ao13 t313.length co13) t313):=⟨by rw [← hq_];exact (rr HO_327000.out)⟩;have n1_ : Aside0 (Kd.R (Kd.int .i64) 3 wc w.heap.size (fun k_=>some k_ ≠ (.slice Ao20 t323.length co20 : Value).ownBlock) (.slice Ao18 t316.length co18) t316):=⟨by rw [← hq_];exact (rr HO_327001.out)⟩;have n2_ : Aside0 (Kd.R k127 127 wc w.heap.size (fun _=>True) (.slice Ao19 t319.length co19) t319):=⟨by rw [← hq_];exact (rr HO_327002.out)⟩;have n3_ : Aside0 (Kd.R (Kd.int .i64) 3 wc w.heap.size (fun k_=>some k_ ≠ (.slice Ao18 t316.length co18 : Value).ownBlock) (.slice Ao20 t323.length co20) t323):=⟨by rw [← hq_];exact (rr HO_327004.out)⟩;have n4_ : Aside0 (wc.heap[gb310]? = some (.cells #[.slice A0_0 l0_0.length c0_0,.slice (some ad328) l0_1.length c0_1,.slice A0_2 l0_2.length c0_2,.int .i64 a0_3,.slice A0_4 l0_4.length c0_4] 51 (0,0))):=⟨by rw [← hq_];exact (rk BK310.out)⟩;have n5_ : Aside0 (wc.heap[gb311]? = some (.cells #[.int .i64 a1_0,.int .i64 a1_1,.int .i64 a1_2,.int .i64 a1_3,.int .i64 a1_4,.int .i64 a1_5,.int .i64 a1_6] 36 (0,0))):=⟨by rw [← hq_];exact (rk BK311.out)⟩;have n6_ : Aside0 (wc.heap[gb312]? = some (.cells #[.slice none 0 0,.slice none 0 0,.slice none 0 0,.int .i64 0,.slice none 0 0] 51 (0,0))):=⟨by rw [← hq_];exact (rk BK312.out)⟩;have n7_ : Aside0 (wc.heap[gb326]? = some (.cells #[.slice Ao13 t313.length co13,.slice Ao18 t316.length co18,.slice Ao19 t319.length co19,.int .i64 t322,.slice Ao20 t323.length co20] 51 (0,0))):=⟨by rw [← hq_];exact (rk BK326.out)⟩;have n8_ : Aside0 (Below w.heap.size w wc):=⟨by rw [← hq_];exact (rb4 GE310.out GE311.out GE312.out GE326.out HB.out)⟩;clear HO_327000 HO_327001 HO_327002 HO_327004 BK310 BK311 BK312 BK326 HB hq_;have HO_327000:=n0_;have HO_327001:=n1_;have HO_327002:=n2_;have HO_327004:=n3_;have BK310:=n4_;have BK311:=n5_;have BK312:=n6_;have BK326:=n7_;have HB:=n8_;clear n0_ n1_ n2_ n3_ n4_ n5_ n6_ n7_ n8_));have hcz178_0 : wc.cell? ⟨gb310,0,none⟩ = some (.slice A0_0 l0_0.length c0_0):=(blk_cell BK310.out 0).trans rfl;have hcz178_1 : wc.cell? ⟨gb310,1,none⟩ = some (.slice (some ad328) l0_1.length c0_1):=(blk_cell BK310.out 1).trans rfl;have hcz178_2 : wc.cell? ⟨gb310,2,none⟩ = some (.slice A0_2 l0_2.length c0_2):=(blk_cell BK310.out 2).trans rfl;have hcz178_3 : wc.cell? ⟨gb310,3,none⟩ = some (.int .i64 a0_3):=(blk_cell BK310.out 3).trans rfl;have hcz178_4 : wc.cell? ⟨gb310,4,none⟩ = some (.slice A0_4 l0_4.length c0_4):=(blk_cell BK310.out 4).trans rfl;have hfz178_0:=blk_frozen BK310.out 0;have hfz178_1:=blk_frozen BK310.out 1;have hfz178_2:=blk_frozen BK310.out 2;have hfz178_3:=blk_frozen BK310.out 3;have hfz178_4:=blk_frozen BK310.out 4;have hnb179:=NB326_312.out;have hnc179:=NB312_326.out;have hcz180_0 : wc.cell? ⟨gb326,0,none⟩ = some (.slice Ao13 t313.length co13):=(blk_cell BK326.out 0).trans rfl;have hcz180_1 : wc.cell? ⟨gb326,1,none⟩ = some (.slice Ao18 t316.length co18):=(blk_cell BK326.out 1).trans rfl;have hcz180_2 : wc.cell? ⟨gb326,2,none⟩ = some (.slice Ao19 t319.length co19):=(blk_cell BK326.out 2).trans rfl;have hcz180_3 : wc.cell? ⟨gb326,3,none⟩ = some (.int .i64 t322):=(blk_cell BK326.out 3).trans rfl;have hcz180_4 : wc.cell? ⟨gb326,4,none⟩ = some (.slice Ao20 t323.length co20):=(blk_cell BK326.out 4).trans rfl;have hfz180_0:=blk_frozen BK326.out 0;have hfz180_1:=blk_frozen BK326.out 1;have hfz180_2:=blk_frozen BK326.out 2;have hfz180_3:=blk_frozen BK326.out 3;have hfz180_4:=blk_frozen BK326.out 4;have hcz181_0 : wc.cell? ⟨gb312,0,none⟩ = some (.slice none 0 0):=(blk_cell BK312.out 0).trans rfl;have hcz181_1 : wc.cell? ⟨gb312,1,none⟩ = some (.slice none 0 0):=(blk_cell BK312.out 1).trans rfl;have hcz181_2 : wc.cell? ⟨gb312,2,none⟩ = some (.slice none 0 0):=(blk_cell BK312.out 2).trans rfl;have hcz181_3 : wc.cell? ⟨gb312,3,none⟩ = some (.int .i64 0):=(blk_cell BK312.out 3).trans rfl;have hcz181_4 : wc.cell? ⟨gb312,4,none⟩ = some (.slice none 0 0):=(blk_cell BK312.out 4).trans rfl;have hfz181_0:=blk_frozen BK312.out 0;have hfz181_1:=blk_frozen BK312.out 1;have hfz181_2:=blk_frozen BK312.out 2;have hfz181_3:=blk_frozen BK312.out 3;have hfz181_4:=blk_frozen BK312.out 4))
    refine bodyPost_ret (results_ct rfl _ _ gb312 51 #[.slice Ao13 t313.length co13,.slice Ao18 t316.length co18,.slice Ao19 t319.length co19,.int .i64 t322,.slice Ao20 t323.length co20] (0,0) _ rfl (kq BK312) Try.underlying51 rfl (by kernel_rfl)) rfl ?_
    exact ⟨_,_,_,_,by first | rfl | (simp [errW_none,errW_some] <;> rfl) | (simp [*,errW_none,errW_some] <;> rfl),rfa HO_327000,rfa HO_327001,rfa HO_327002,rfa HO_327004,rbx HB⟩
   rw [if_pos c64] at H
   have c64b0 : (a1_2 == (rd l0_1 a1_1)) = true:=beq_iff_eq.mpr c64
   have c64b1 : (a1_2 != (rd l0_1 a1_1)) = false:=bne_eq_false_iff_eq.mpr c64
   clear c64
   by_cases c65 : t313.length < 2932031007402
   rotate_left
   ·rw [if_neg c65] at H
    exact absurd H (by simp)
   rw [if_pos c65] at H
   have LMc65:=ak c65
   clear c65
   obtain ⟨y333,hy333⟩ : ∃ y_ : List (S134),y_ = (t313 ++ [(⟨a1_1,a1_2,(⟨a1_3,a1_4,a1_5,a1_6⟩ : S34)⟩ : S134)]):=⟨_,rfl⟩
   replace H : (spec_Kept.l0 kj3 (wrap64 ((rd l0_1 a1_1) + 1)) a1_0 a1_1 a1_2 a1_3 a1_4 a1_5 a1_6 y333 t316 t319 t322 t323) = some (r1,r2,r3,r4,r5,r6):=by first | (rw [hy333];with_reducible exact H) | (have H2_:=(Option.bind_some _ _).symm.trans H;rw [hy333];with_reducible exact H2_) | (have H2_:=(Option.bind_some _ _).symm.trans H;with_reducible exact H2_) | with_reducible exact H | (rw [hy333];exact H) | exact H
   have Ny333:=ak hy333
   clear hy333
   have H':=ak H
   clear H
   have hnb66:=NB310_311.out
   have hnc66:=NB311_310.out
   have hnb67:=NB310_312.out
   have hnc67:=NB312_310.out
   have hnb68:=NB310_326.out
   have hnc68:=NB326_310.out
   have hz69:=bc5 BK310
   have hnb70:=NB311_312.out
   have hnc70:=NB312_311.out
   have hnb71:=NB311_326.out
   have hnc71:=NB326_311.out
   have hz72:=bc7 BK311
   have p328 : 0 ≤ (a1_1 : Int):=of_decide_eq_true (by first | (with_reducible assumption) | assumption)
   have q328 : a1_1 < (l0_1.length : Int):=of_decide_eq_true (by first | (with_reducible assumption) | assumption)
   obtain ⟨ad328,e328,hx328_0⟩:=Kd.at_int HR0_1.out a1_1 p328 q328
   cases e328
   replace hx328_0:=(HB.out.cell (World.block_lt_of_cell? w _ hx328_0)).trans hx328_0
   replace p328:=eq_true p328
   replace q328:=eq_true q328
   have hnb73:=NB326_312.out
   have hnc73:=NB312_326.out
   have hz74:=bc5 BK326
   go_wp2_with (first | ((with_reducible refine gate_builtin (b:=.append) (xs:=#[.tmp 85,.tmp 93]) rfl ?_);(try (refine gate_guard (by rfl) ?_;dsimp only));at_builtin;refine Kd.R_append k134 (w0:=w) w.heap.size rfl (.tmp 85) (.tmp 93) 48 134 (.agg #[(.int .i64 0),(.int .i64 0),(.int .i64 0),(.int .i64 0),(.int .i64 0),(.int .i64 0)]) 48 rfl Try.underlying48 info134 rfl (by decide) (by omega) (.slice Ao13 t313.length co13) t313 (⟨a1_1,a1_2,(⟨a1_3,a1_4,a1_5,a1_6⟩ : S34)⟩ : S134) [.int .i64 a1_1,.int .i64 a1_2,.int .i64 a1_3,.int .i64 a1_4,.int .i64 a1_5,.int .i64 a1_6] (fun _=>True) (fun _=>False) rfl rfl ?aP (fun _ hk=>hk.elim) ?aF ?aO ?aB ?aS ?aL ?_;(case aP=>exact k134_mkM _ _ _ (⟨a1_1,a1_2,(⟨a1_3,a1_4,a1_5,a1_6⟩ : S34)⟩ : S134));(case aB=>exact (rb4 GE310.out GE311.out GE312.out GE326.out HB.out));(case aF=>exact (fun _ _=>trivial));(case aO=>exact (rr HO_327000.out));(case aS=>exact (below_size (rb4 GE310.out GE311.out GE312.out GE326.out HB.out)));(case aL=>have:=LMc65.out;omega);intro v334 w75 ho hb hg hat;rw [← Ny333.out] at ho;have n_ : _∧_∧_∧_∧_∧_∧_∧_∧_:=⟨ak (Kd.R_over' (rr HO_327001.out) (Kd.R_typed (rr HO_327000.out)) (by decide) hg),ak (Kd.R_over' (rr HO_327002.out) (Kd.R_typed (rr HO_327000.out)) (by decide) hg),ak (Kd.R_over' (rr HO_327004.out) (Kd.R_typed (rr HO_327000.out)) (by decide) hg),kg BK310 HO_327000 hg,kg BK311 HO_327000 hg,kg BK312 HO_327000 hg,kg BK326 HO_327000 hg,ak (hb),ak (ho)⟩;clear HO_327001 HO_327002 HO_327004 BK310 BK311 BK312 BK326 HB HO_327000 ho hb hg hat;obtain ⟨HO_327001,HO_327002,HO_327004,BK310,BK311,BK312,BK326,HB,HO335⟩:=n_;obtain ⟨Ao76,co76,eo76⟩:=Kd.R_slice HO335.out;subst eo76;have hcz77_0 : w75.cell? ⟨gb326,0,none⟩ = some (.slice Ao13 t313.length co13):=(blk_cell BK326.out 0).trans rfl;have hcz77_1 : w75.cell? ⟨gb326,1,none⟩ = some (.slice Ao18 t316.length co18):=(blk_cell BK326.out 1).trans rfl;have hcz77_2 : w75.cell? ⟨gb326,2,none⟩ = some (.slice Ao19 t319.length co19):=(blk_cell BK326.out 2).trans rfl;have hcz77_3 : w75.cell? ⟨gb326,3,none⟩ = some (.int .i64 t322):=(blk_cell BK326.out 3).trans rfl;have hcz77_4 : w75.cell? ⟨gb326,4,none⟩ = some (.slice Ao20 t323.length co20):=(blk_cell BK326.out 4).trans rfl;have hfz77_0:=blk_frozen BK326.out 0;have hfz77_1:=blk_frozen BK326.out 1;have hfz77_2:=blk_frozen BK326.out 2;have hfz77_3:=blk_frozen BK326.out 3;have hfz77_4:=blk_frozen BK326.out 4))
   go_loopg [7] kj3 (fun kq v7 w'=>∃ (x7_2 : Int) (x327000_2 : List (S134)) (x327002_2 : List (S127)) (u327000 : Value) (u327002 : Value),v7 = .int .i64 x7_2∧Aside0 (spec_Kept.l0 kq x7_2 a1_0 a1_1 a1_2 a1_3 a1_4 a1_5 a1_6 x327000_2 t316 x327002_2 t322 t323 = some (r1,r2,r3,r4,r5,r6))∧Aside0 (kq ≤ kj3)∧Aside0 (Kd.R k134 134 w' w.heap.size (fun _=>True) u327000 x327000_2)∧Aside0 (Kd.R (Kd.int .i64) 3 w' w.heap.size (fun k_=>some k_ ≠ ((.slice Ao20 t323.length co20) : Value).ownBlock) (.slice Ao18 t316.length co18) t316)∧Aside0 (Kd.R k127 127 w' w.heap.size (fun _=>True) u327002 x327002_2)∧Aside0 (Kd.R (Kd.int .i64) 3 w' w.heap.size (fun k_=>some k_ ≠ ((.slice Ao18 t316.length co18) : Value).ownBlock) (.slice Ao20 t323.length co20) t323)∧Aside0 (w'.heap[gb310]? = some (.cells #[(.slice A0_0 l0_0.length c0_0),(.slice (some ad328) l0_1.length c0_1),(.slice A0_2 l0_2.length c0_2),.int .i64 a0_3,(.slice A0_4 l0_4.length c0_4)] 51 (0,0)))∧Aside0 (w'.heap[gb311]? = some (.cells #[.int .i64 a1_0,.int .i64 a1_1,.int .i64 a1_2,.int .i64 a1_3,.int .i64 a1_4,.int .i64 a1_5,.int .i64 a1_6] 36 (0,0)))∧Aside0 (w'.heap[gb312]? = some (.cells #[(.slice none 0 0),(.slice none 0 0),(.slice none 0 0),.int .i64 0,(.slice none 0 0)] 51 (0,0)))∧Aside0 (w'.heap[gb326]? = some (.cells #[u327000,(.slice Ao18 t316.length co18),u327002,.int .i64 t322,(.slice Ao20 t323.length co20)] 51 (0,0)))∧Aside0 (Below w.heap.size w w'))
   case atStart=>exact ⟨(wrap64 ((rd l0_1 a1_1) + 1)),(y333),(t319),(.slice Ao76 y333.length co76),(.slice Ao19 t319.length co19),(by first | rfl | (simp;done) | (simp [*];done)),H',⟨Nat.le_refl _⟩,⟨rfa HO335⟩,⟨rfa HO_327001⟩,⟨rfa HO_327002⟩,⟨rfa HO_327004⟩,⟨by (with_reducible repeat (first | refine blk_drewN ?_ _ | refine blk_drew ?_ | refine blk_alloc ?_ _));refine blk_far ?_ NB310_326.out _;(with_reducible repeat (first | refine blk_drewN ?_ _ | refine blk_drew ?_ | refine blk_alloc ?_ _));exact BK310.out⟩,⟨by (with_reducible repeat (first | refine blk_drewN ?_ _ | refine blk_drew ?_ | refine blk_alloc ?_ _));refine blk_far ?_ NB311_326.out _;(with_reducible repeat (first | refine blk_drewN ?_ _ | refine blk_drew ?_ | refine blk_alloc ?_ _));exact BK311.out⟩,⟨by (with_reducible repeat (first | refine blk_drewN ?_ _ | refine blk_drew ?_ | refine blk_alloc ?_ _));refine blk_far ?_ NB312_326.out _;(with_reducible repeat (first | refine blk_drewN ?_ _ | refine blk_drew ?_ | refine blk_alloc ?_ _));exact BK312.out⟩,⟨by (with_reducible repeat (first | refine blk_drewN ?_ _ | refine blk_drew ?_ | refine blk_alloc ?_ _));refine blk_put (cs:=#[.slice Ao13 t313.length co13,.slice Ao18 t316.length co18,.slice Ao19 t319.length co19,.int .i64 t322,.slice Ao20 t323.length co20]) ?_ 0 _ rfl;(with_reducible repeat (first | refine blk_drewN ?_ _ | refine blk_drew ?_ | refine blk_alloc ?_ _));exact BK326.out⟩,⟨rbx HB⟩⟩
   case round =>
    clear H'
    try clear c1
    try clear c2
    try clear p2
    try clear c3
    try clear p3
    try clear q3
    try clear hx3
    try clear c4
    try clear c5
    try clear c6
    try clear p6
    try clear c7
    try clear c8
    try clear c9
    try clear c12
    try clear c14
    try clear c15
    try clear c16
    try clear c22
    try clear c23
    try clear c23b0
    try clear c23b1
    try clear c24
    try clear c24b0
    try clear c25
    try clear c26
    try clear c27
    try clear c31
    try clear c32
    try clear p32
    try clear q32
    try clear hx32
    try clear c34
    try clear c35
    try clear c36
    try clear c40
    try clear c41
    try clear c43
    try clear c44
    try clear c45
    try clear c49
    try clear c50
    try clear c51
    try clear c54
    try clear c55
    try clear c56
    try clear c57
    try clear c59
    try clear c60
    try clear c62
    try clear c62b0
    try clear c63
    try clear c63b0
    try clear c64
    try clear c64b0
    try clear c64b1
    try clear p64
    try clear c65
    try clear c66
    try clear c67
    try clear c68
    try clear c70
    try clear c71
    try clear c73
    try clear hcz10_0
    try clear hcz10_1
    try clear hcz10_2
    try clear hcz10_3
    try clear hcz10_4
    try clear hcz17_0
    try clear hcz17_1
    try clear hcz17_2
    try clear hcz17_3
    try clear hcz17_4
    try clear hz28
    try clear hcz30_0
    try clear hcz30_1
    try clear hcz30_2
    try clear hcz30_3
    try clear hcz30_4
    try clear hcz30_5
    try clear hcz30_6
    try clear hcz33_0
    try clear hcz33_1
    try clear hcz33_2
    try clear hcz33_3
    try clear hcz33_4
    try clear hz37
    try clear hcz39_0
    try clear hcz39_1
    try clear hcz39_2
    try clear hcz39_3
    try clear hcz39_4
    try clear hcz39_5
    try clear hcz39_6
    try clear hcz42_0
    try clear hcz42_1
    try clear hcz42_2
    try clear hcz42_3
    try clear hcz42_4
    try clear hz46
    try clear hcz48_0
    try clear hcz48_1
    try clear hcz48_2
    try clear hcz48_3
    try clear hcz48_4
    try clear hcz48_5
    try clear hcz48_6
    try clear hz52
    try clear hz58
    try clear hz61
    try clear hz69
    try clear hz72
    try clear hz74
    try clear hcz77_0
    try clear hcz77_1
    try clear hcz77_2
    try clear hcz77_3
    try clear hcz77_4
    try clear hfz10_0
    try clear hfz10_1
    try clear hfz10_2
    try clear hfz10_3
    try clear hfz10_4
    try clear hfz17_0
    try clear hfz17_1
    try clear hfz17_2
    try clear hfz17_3
    try clear hfz17_4
    try clear hfz30_0
    try clear hfz30_1
    try clear hfz30_2
    try clear hfz30_3
    try clear hfz30_4
    try clear hfz30_5
    try clear hfz30_6
    try clear hfz33_0
    try clear hfz33_1
    try clear hfz33_2
    try clear hfz33_3
    try clear hfz33_4
    try clear hfz39_0
    try clear hfz39_1
    try clear hfz39_2
    try clear hfz39_3
    try clear hfz39_4
    try clear hfz39_5
    try clear hfz39_6
    try clear hfz42_0
    try clear hfz42_1
    try clear hfz42_2
    try clear hfz42_3
    try clear hfz42_4
    try clear hfz48_0
    try clear hfz48_1
    try clear hfz48_2
    try clear hfz48_3
    try clear hfz48_4
    try clear hfz48_5
    try clear hfz48_6
    try clear hfz77_0
    try clear hfz77_1
    try clear hfz77_2
    try clear hfz77_3
    try clear hfz77_4
    try clear hx328_0
    try clear p2
    try clear p328
    try clear q328
    obtain ⟨x7_2,x327000_2,x327002_2,u327000,u327002,rfl,HA,HK2,HO_327000,HO_327001,HO_327002,HO_327004,BK310,BK311,BK312,BK326,HB⟩:=hrel
    cases gk with
    | zero=>exact absurd HA.out (by simp [spec_Kept.l0])
    | succ k2 =>
     have H:=HA.out
     clear HA
     simp only [spec_Kept.l0] at H
     by_cases c78 : (x327000_2.length : Int) < 200
     rotate_left
     ·rw [if_neg c78] at H
      have c78b0 : decide ((x327000_2.length : Int) < 200) = false:=decide_eq_false c78
      have c78b1 : decide (x327000_2.length < 200) = false:=decide_eq_false (by omega)
      clear c78
      by_cases c133 : 0 ≤ a1_1
      rotate_left
      ·rw [if_neg c133] at H
       exact absurd H (by simp)
      rw [if_pos c133] at H
      have c133b0 : decide (0 ≤ a1_1) = true:=decide_eq_true c133
      clear c133
      by_cases c134 : a1_1 < (t316.length : Int)
      rotate_left
      ·rw [if_neg c134] at H
       exact absurd H (by simp)
      rw [if_pos c134] at H
      have c134b0 : decide (a1_1 < (t316.length : Int)) = true:=decide_eq_true c134
      clear c134
      obtain ⟨y359,hy359⟩ : ∃ y_ : List Int,y_ = (t316.set (a1_1 : Int).toNat x7_2):=⟨_,rfl⟩
      replace H : (some (x327000_2,y359,x327002_2,t322,t323,true)) = some (r1,r2,r3,r4,r5,r6):=by first | (rw [hy359];with_reducible exact H) | (have H2_:=(Option.bind_some _ _).symm.trans H;rw [hy359];with_reducible exact H2_) | (have H2_:=(Option.bind_some _ _).symm.trans H;with_reducible exact H2_) | with_reducible exact H | (rw [hy359];exact H) | exact H
      have Ny359:=ak hy359
      clear hy359
      simp only [Option.some.injEq,Prod.mk.injEq] at H
      obtain ⟨rfl,rfl,rfl,rfl,rfl,rfl⟩:=H
      have hnb136:=NB326_310.out
      have hnc136:=NB310_326.out
      have hnb137:=NB326_311.out
      have hnc137:=NB311_326.out
      have hnb138:=NB326_312.out
      have hnc138:=NB312_326.out
      have hz139:=bc5 BK326
      obtain ⟨Ao140,co140,eo140⟩:=Kd.R_slice HO_327000.out
      subst eo140
      have hnb141:=NB311_310.out
      have hnc141:=NB310_311.out
      have hnb142:=NB311_312.out
      have hnc142:=NB312_311.out
      have hz143:=bc7 BK311
      have p135 : 0 ≤ (a1_1 : Int):=of_decide_eq_true (by first | (with_reducible assumption) | assumption)
      have q135 : (a1_1 : Int) < ((t316.length : Int) : Int):=of_decide_eq_true (by first | (with_reducible assumption) | assumption)
      obtain ⟨go135,co135,eo135,gb135,gl135,cl135,HG135⟩:=Kd.R_form HO_327001.out (by omega)
      (first | cases eo135 | (injection eo135 with ea_ en_ ec_;(first | subst ea_ | (injection ea_ with ea_;subst ea_));subst ec_;clear en_))
      have GB135:=ak gb135
      have GG135:=ak HG135
      clear gb135 gl135 HG135
      obtain ⟨hx135_0,hf135_0⟩:=Kd.R_celln 0 HO_327001.out (a1_1 : Int) p135 q135
      replace p135:=eq_true p135
      replace q135:=eq_true q135
      have HP144:=Kd.R_putg HO_327001.out (a1_1 : Int) x7_2
      go_wp2_with (first | ((with_reducible refine gate_store (t:=3) (p:=145) rfl ?_);refine store_event (t:=3) (p:=145) (v:=?vo_w145) (w1:=(wr.setCell ⟨go135,(a1_1 : Int).toNat,none⟩ (.int .i64 x7_2))) ?hg ?ho ?hn ?hr ?_;(case ho=>rfl);(case hg=>rfl);(case hn=>rfl);(case hr=>first | (go_simp;done) | (go_simp;rfl));intro w145 hw;have hg : wr.grownBy w145 (some go135):=(by rw [hw];exact HP144.2);have hp_ : Kd.R (Kd.int .i64) 3 w145 w.heap.size (fun k_=>some k_ ≠ (.slice Ao20 t323.length co20 : Value).ownBlock) (.slice (some ⟨go135,0,none⟩) t316.length co18) y359:=(by rw [hw,Ny359.out];exact HP144.1);clear HP144;have n0_:=ak (Kd.R_over' (v:=(.slice (some ⟨go135,0,none⟩) t316.length co18)) (rr HO_327000.out) (Kd.R_typed HO_327001.out) (by decide) hg);have n1_:=ak (hp_);have n2_:=ak (Kd.R_over' (v:=(.slice (some ⟨go135,0,none⟩) t316.length co18)) (rr HO_327002.out) (Kd.R_typed HO_327001.out) (by decide) hg);have n3_:=ak (Kd.R_after (v:=(.slice (some ⟨go135,0,none⟩) t316.length co18)) (v1:=(.slice (some ⟨go135,0,none⟩) t316.length co18)) (ok:=(fun _=>True)) (by (with_reducible repeat (first | apply Kd.R_alloc | apply Kd.R_drewN | apply Kd.R_drew));exact Kd.R_mono HO_327004.out (fun _ hk=>⟨trivial,hk⟩)) hg (.inl rfl));have n4_:=kg BK310 HO_327001 hg;have n5_:=kg BK311 HO_327001 hg;have n6_:=kg BK312 HO_327001 hg;have n7_:=kg BK326 HO_327001 hg;have n8_:=ak ((by rw [hw];exact below_set (HB.out) GB135.out : Below w.heap.size w w145));clear HO_327000 HO_327001 HO_327002 HO_327004 BK310 BK311 BK312 BK326 HB;have HO_327000:=n0_;have HO_327001:=n1_;have HO_327002:=n2_;have HO_327004:=n3_;have BK310:=n4_;have BK311:=n5_;have BK312:=n6_;have BK326:=n7_;have HB:=n8_;clear n0_ n1_ n2_ n3_ n4_ n5_ n6_ n7_ n8_ hg hw hp_;have hcz146_0 : w145.cell? ⟨gb326,0,none⟩ = some (.slice Ao140 x327000_2.length co140):=(blk_cell BK326.out 0).trans rfl;have hcz146_1 : w145.cell? ⟨gb326,1,none⟩ = some (.slice (some ⟨go135,0,none⟩) t316.length co18):=(blk_cell BK326.out 1).trans rfl;have hcz146_2 : w145.cell? ⟨gb326,2,none⟩ = some (u327002):=(blk_cell BK326.out 2).trans rfl;have hcz146_3 : w145.cell? ⟨gb326,3,none⟩ = some (.int .i64 t322):=(blk_cell BK326.out 3).trans rfl;have hcz146_4 : w145.cell? ⟨gb326,4,none⟩ = some (.slice Ao20 t323.length co20):=(blk_cell BK326.out 4).trans rfl;have hfz146_0:=blk_frozen BK326.out 0;have hfz146_1:=blk_frozen BK326.out 1;have hfz146_2:=blk_frozen BK326.out 2;have hfz146_3:=blk_frozen BK326.out 3;have hfz146_4:=blk_frozen BK326.out 4;have hnb147:=NB312_310.out;have hnc147:=NB310_312.out;have hcz148_0 : w145.cell? ⟨gb312,0,none⟩ = some (.slice none 0 0):=(blk_cell BK312.out 0).trans rfl;have hcz148_1 : w145.cell? ⟨gb312,1,none⟩ = some (.slice none 0 0):=(blk_cell BK312.out 1).trans rfl;have hcz148_2 : w145.cell? ⟨gb312,2,none⟩ = some (.slice none 0 0):=(blk_cell BK312.out 2).trans rfl;have hcz148_3 : w145.cell? ⟨gb312,3,none⟩ = some (.int .i64 0):=(blk_cell BK312.out 3).trans rfl;have hcz148_4 : w145.cell? ⟨gb312,4,none⟩ = some (.slice none 0 0):=(blk_cell BK312.out 4).trans rfl;have hfz148_0:=blk_frozen BK312.out 0;have hfz148_1:=blk_frozen BK312.out 1;have hfz148_2:=blk_frozen BK312.out 2;have hfz148_3:=blk_frozen BK312.out 3;have hfz148_4:=blk_frozen BK312.out 4;obtain ⟨Ao149,co149,eo149⟩:=Kd.R_slice HO_327002.out;subst eo149))
      refine bodyPost_ret (results_ct rfl _ _ gb312 51 #[.slice Ao140 x327000_2.length co140,.slice (some ⟨go135,0,none⟩) t316.length co18,.slice Ao149 x327002_2.length co149,.int .i64 t322,.slice Ao20 t323.length co20] (0,0) _ rfl (kq BK312) Try.underlying51 rfl (by kernel_rfl)) rfl ?_
      exact ⟨_,_,_,_,by first | rfl | (simp [errW_none,errW_some] <;> rfl) | (simp [*,errW_none,errW_some] <;> rfl),rfa HO_327000,rfa HO_327001,rfa HO_327002,rfa HO_327004,rbx HB⟩
     rw [if_pos c78] at H
     have c78b0 : decide ((x327000_2.length : Int) < 200) = true:=decide_eq_true c78
     have c78b1 : decide (x327000_2.length < 200) = true:=decide_eq_true (by omega)
     clear c78
     replace H:=Option.bind_eq_some_iff.mp H
     obtain ⟨t336,A790,H⟩:=H
     try dsimp only at H
     have A79:=ak A790
     clear A790
     by_cases c80 : t336 < 0
     ·rw [if_pos c80] at H
      have c80b0 : decide (t336 < 0) = true:=decide_eq_true c80
      clear c80
      by_cases c81 : 0 ≤ a1_1
      rotate_left
      ·rw [if_neg c81] at H
       exact absurd H (by simp)
      rw [if_pos c81] at H
      have c81b0 : decide (0 ≤ a1_1) = true:=decide_eq_true c81
      clear c81
      by_cases c82 : a1_1 < (t316.length : Int)
      rotate_left
      ·rw [if_neg c82] at H
       exact absurd H (by simp)
      rw [if_pos c82] at H
      have c82b0 : decide (a1_1 < (t316.length : Int)) = true:=decide_eq_true c82
      clear c82
      obtain ⟨y337,hy337⟩ : ∃ y_ : List Int,y_ = (t316.set (a1_1 : Int).toNat x7_2):=⟨_,rfl⟩
      replace H : (some (x327000_2,y337,x327002_2,t322,t323,true)) = some (r1,r2,r3,r4,r5,r6):=by first | (rw [hy337];with_reducible exact H) | (have H2_:=(Option.bind_some _ _).symm.trans H;rw [hy337];with_reducible exact H2_) | (have H2_:=(Option.bind_some _ _).symm.trans H;with_reducible exact H2_) | with_reducible exact H | (rw [hy337];exact H) | exact H
      have Ny337:=ak hy337
      clear hy337
      simp only [Option.some.injEq,Prod.mk.injEq] at H
      obtain ⟨rfl,rfl,rfl,rfl,rfl,rfl⟩:=H
      have hnb84:=NB326_310.out
      have hnc84:=NB310_326.out
      have hnb85:=NB326_311.out
      have hnc85:=NB311_326.out
      have hnb86:=NB326_312.out
      have hnc86:=NB312_326.out
      have hz87:=bc5 BK326
      obtain ⟨Ao88,co88,eo88⟩:=Kd.R_slice HO_327000.out
      subst eo88
      have hnb89:=NB311_310.out
      have hnc89:=NB310_311.out
      have hnb90:=NB311_312.out
      have hnc90:=NB312_311.out
      have hz91:=bc7 BK311
      obtain ⟨Ao92,co92,eo92⟩:=Kd.R_slice HO_327002.out
      subst eo92
      go_wp2_with (first | ((with_reducible refine gc (f:=103) rfl ?_);refine gl (some 107) Try.func103 #[.slice Ao92 x327002_2.length co92,.int .i64 a1_1,.int .i64 x7_2] ?_;(with_reducible refine (spec_l20Early.calls k2 _ _ x327002_2 a1_1 x7_2 t336 _ ?side1 ?side2 A79.out).mono ?_);(case side1=>exact rc (Kd.R_reads' HO_327002.out).2.2);(case side2=>exact (Kd.R_reads' HO_327002.out).2.1);rintro e w' ⟨rfl,⟨nd,rfl⟩⟩;refine ⟨_,rfl,?_⟩;(try (rw [drewN_self wr];generalize hq_ : World.drewN wr _ = wr;have n0_ : Aside0 (Kd.R k134 134 wr w.heap.size (fun _=>True) (.slice Ao88 x327000_2.length co88) x327000_2):=⟨by rw [← hq_];exact (rr HO_327000.out)⟩;have n1_ : Aside0 (Kd.R (Kd.int .i64) 3 wr w.heap.size (fun k_=>some k_ ≠ (.slice Ao20 t323.length co20 : Value).ownBlock) (.slice Ao18 t316.length co18) t316):=⟨by rw [← hq_];exact (rr HO_327001.out)⟩;have n2_ : Aside0 (Kd.R k127 127 wr w.heap.size (fun _=>True) (.slice Ao92 x327002_2.length co92) x327002_2):=⟨by rw [← hq_];exact (rr HO_327002.out)⟩;have n3_ : Aside0 (Kd.R (Kd.int .i64) 3 wr w.heap.size (fun k_=>some k_ ≠ (.slice Ao18 t316.length co18 : Value).ownBlock) (.slice Ao20 t323.length co20) t323):=⟨by rw [← hq_];exact (rr HO_327004.out)⟩;have n4_ : Aside0 (wr.heap[gb310]? = some (.cells #[.slice A0_0 l0_0.length c0_0,.slice (some ad328) l0_1.length c0_1,.slice A0_2 l0_2.length c0_2,.int .i64 a0_3,.slice A0_4 l0_4.length c0_4] 51 (0,0))):=⟨by rw [← hq_];exact (rk BK310.out)⟩;have n5_ : Aside0 (wr.heap[gb311]? = some (.cells #[.int .i64 a1_0,.int .i64 a1_1,.int .i64 a1_2,.int .i64 a1_3,.int .i64 a1_4,.int .i64 a1_5,.int .i64 a1_6] 36 (0,0))):=⟨by rw [← hq_];exact (rk BK311.out)⟩;have n6_ : Aside0 (wr.heap[gb312]? = some (.cells #[.slice none 0 0,.slice none 0 0,.slice none 0 0,.int .i64 0,.slice none 0 0] 51 (0,0))):=⟨by rw [← hq_];exact (rk BK312.out)⟩;have n7_ : Aside0 (wr.heap[gb326]? = some (.cells #[.slice Ao88 x327000_2.length co88,.slice Ao18 t316.length co18,.slice Ao92 x327002_2.length co92,.int .i64 t322,.slice Ao20 t323.length co20] 51 (0,0))):=⟨by rw [← hq_];exact (rk BK326.out)⟩;have n8_ : Aside0 (Below w.heap.size w wr):=⟨by rw [← hq_];exact (rb4 GE310.out GE311.out GE312.out GE326.out HB.out)⟩;clear HO_327000 HO_327001 HO_327002 HO_327004 BK310 BK311 BK312 BK326 HB hq_;have HO_327000:=n0_;have HO_327001:=n1_;have HO_327002:=n2_;have HO_327004:=n3_;have BK310:=n4_;have BK311:=n5_;have BK312:=n6_;have BK326:=n7_;have HB:=n8_;clear n0_ n1_ n2_ n3_ n4_ n5_ n6_ n7_ n8_));have hcz93_0 : wr.cell? ⟨gb326,0,none⟩ = some (.slice Ao88 x327000_2.length co88):=(blk_cell BK326.out 0).trans rfl;have hcz93_1 : wr.cell? ⟨gb326,1,none⟩ = some (.slice Ao18 t316.length co18):=(blk_cell BK326.out 1).trans rfl;have hcz93_2 : wr.cell? ⟨gb326,2,none⟩ = some (.slice Ao92 x327002_2.length co92):=(blk_cell BK326.out 2).trans rfl;have hcz93_3 : wr.cell? ⟨gb326,3,none⟩ = some (.int .i64 t322):=(blk_cell BK326.out 3).trans rfl;have hcz93_4 : wr.cell? ⟨gb326,4,none⟩ = some (.slice Ao20 t323.length co20):=(blk_cell BK326.out 4).trans rfl;have hfz93_0:=blk_frozen BK326.out 0;have hfz93_1:=blk_frozen BK326.out 1;have hfz93_2:=blk_frozen BK326.out 2;have hfz93_3:=blk_frozen BK326.out 3;have hfz93_4:=blk_frozen BK326.out 4;have hcz94_0 : wr.cell? ⟨gb311,0,none⟩ = some (.int .i64 a1_0):=(blk_cell BK311.out 0).trans rfl;have hcz94_1 : wr.cell? ⟨gb311,1,none⟩ = some (.int .i64 a1_1):=(blk_cell BK311.out 1).trans rfl;have hcz94_2 : wr.cell? ⟨gb311,2,none⟩ = some (.int .i64 a1_2):=(blk_cell BK311.out 2).trans rfl;have hcz94_3 : wr.cell? ⟨gb311,3,none⟩ = some (.int .i64 a1_3):=(blk_cell BK311.out 3).trans rfl;have hcz94_4 : wr.cell? ⟨gb311,4,none⟩ = some (.int .i64 a1_4):=(blk_cell BK311.out 4).trans rfl;have hcz94_5 : wr.cell? ⟨gb311,5,none⟩ = some (.int .i64 a1_5):=(blk_cell BK311.out 5).trans rfl;have hcz94_6 : wr.cell? ⟨gb311,6,none⟩ = some (.int .i64 a1_6):=(blk_cell BK311.out 6).trans rfl;have hfz94_0:=blk_frozen BK311.out 0;have hfz94_1:=blk_frozen BK311.out 1;have hfz94_2:=blk_frozen BK311.out 2;have hfz94_3:=blk_frozen BK311.out 3;have hfz94_4:=blk_frozen BK311.out 4;have hfz94_5:=blk_frozen BK311.out 5;have hfz94_6:=blk_frozen BK311.out 6;have p83 : 0 ≤ (a1_1 : Int):=of_decide_eq_true (by first | (with_reducible assumption) | assumption);have q83 : (a1_1 : Int) < ((t316.length : Int) : Int):=of_decide_eq_true (by first | (with_reducible assumption) | assumption);obtain ⟨go83,co83,eo83,gb83,gl83,cl83,HG83⟩:=Kd.R_form HO_327001.out (by omega);(first | cases eo83 | (injection eo83 with ea_ en_ ec_;(first | subst ea_ | (injection ea_ with ea_;subst ea_));subst ec_;clear en_));have GB83:=ak gb83;have GG83:=ak HG83;clear gb83 gl83 HG83;obtain ⟨hx83_0,hf83_0⟩:=Kd.R_celln 0 HO_327001.out (a1_1 : Int) p83 q83;replace p83:=eq_true p83;replace q83:=eq_true q83;obtain ⟨hy95_,hz95_⟩:=Kd.R_celln 0 HO_327001.out (a1_1 : Int) (of_decide_eq_true (by first | (with_reducible assumption) | assumption)) (of_decide_eq_true (by first | (with_reducible assumption) | assumption));have HP95:=Kd.R_putg HO_327001.out (a1_1 : Int) x7_2) | ((with_reducible refine gate_store (t:=3) (p:=145) rfl ?_);refine store_event (t:=3) (p:=145) (v:=?vo_w96) (w1:=(wr.setCell ⟨go83,(a1_1 : Int).toNat,none⟩ (.int .i64 x7_2))) ?hg ?ho ?hn ?hr ?_;(case ho=>rfl);(case hg=>rfl);(case hn=>rfl);(case hr=>first | (go_simp;done) | (go_simp;rfl));intro w96 hw;have hg : wr.grownBy w96 (some go83):=(by rw [hw];exact HP95.2);have hp_ : Kd.R (Kd.int .i64) 3 w96 w.heap.size (fun k_=>some k_ ≠ (.slice Ao20 t323.length co20 : Value).ownBlock) (.slice (some ⟨go83,0,none⟩) t316.length co18) y337:=(by rw [hw,Ny337.out];exact HP95.1);clear HP95;have n0_:=ak (Kd.R_over' (v:=(.slice (some ⟨go83,0,none⟩) t316.length co18)) (rr HO_327000.out) (Kd.R_typed HO_327001.out) (by decide) hg);have n1_:=ak (hp_);have n2_:=ak (Kd.R_over' (v:=(.slice (some ⟨go83,0,none⟩) t316.length co18)) (rr HO_327002.out) (Kd.R_typed HO_327001.out) (by decide) hg);have n3_:=ak (Kd.R_after (v:=(.slice (some ⟨go83,0,none⟩) t316.length co18)) (v1:=(.slice (some ⟨go83,0,none⟩) t316.length co18)) (ok:=(fun _=>True)) (by (with_reducible repeat (first | apply Kd.R_alloc | apply Kd.R_drewN | apply Kd.R_drew));exact Kd.R_mono HO_327004.out (fun _ hk=>⟨trivial,hk⟩)) hg (.inl rfl));have n4_:=kg BK310 HO_327001 hg;have n5_:=kg BK311 HO_327001 hg;have n6_:=kg BK312 HO_327001 hg;have n7_:=kg BK326 HO_327001 hg;have n8_:=ak ((by rw [hw];exact below_set (HB.out) GB83.out : Below w.heap.size w w96));clear HO_327000 HO_327001 HO_327002 HO_327004 BK310 BK311 BK312 BK326 HB;have HO_327000:=n0_;have HO_327001:=n1_;have HO_327002:=n2_;have HO_327004:=n3_;have BK310:=n4_;have BK311:=n5_;have BK312:=n6_;have BK326:=n7_;have HB:=n8_;clear n0_ n1_ n2_ n3_ n4_ n5_ n6_ n7_ n8_ hg hw hp_;have hcz97_0 : w96.cell? ⟨gb326,0,none⟩ = some (.slice Ao88 x327000_2.length co88):=(blk_cell BK326.out 0).trans rfl;have hcz97_1 : w96.cell? ⟨gb326,1,none⟩ = some (.slice (some ⟨go83,0,none⟩) t316.length co18):=(blk_cell BK326.out 1).trans rfl;have hcz97_2 : w96.cell? ⟨gb326,2,none⟩ = some (.slice Ao92 x327002_2.length co92):=(blk_cell BK326.out 2).trans rfl;have hcz97_3 : w96.cell? ⟨gb326,3,none⟩ = some (.int .i64 t322):=(blk_cell BK326.out 3).trans rfl;have hcz97_4 : w96.cell? ⟨gb326,4,none⟩ = some (.slice Ao20 t323.length co20):=(blk_cell BK326.out 4).trans rfl;have hfz97_0:=blk_frozen BK326.out 0;have hfz97_1:=blk_frozen BK326.out 1;have hfz97_2:=blk_frozen BK326.out 2;have hfz97_3:=blk_frozen BK326.out 3;have hfz97_4:=blk_frozen BK326.out 4;have hnb98:=NB312_310.out;have hnc98:=NB310_312.out;have hcz99_0 : w96.cell? ⟨gb312,0,none⟩ = some (.slice none 0 0):=(blk_cell BK312.out 0).trans rfl;have hcz99_1 : w96.cell? ⟨gb312,1,none⟩ = some (.slice none 0 0):=(blk_cell BK312.out 1).trans rfl;have hcz99_2 : w96.cell? ⟨gb312,2,none⟩ = some (.slice none 0 0):=(blk_cell BK312.out 2).trans rfl;have hcz99_3 : w96.cell? ⟨gb312,3,none⟩ = some (.int .i64 0):=(blk_cell BK312.out 3).trans rfl;have hcz99_4 : w96.cell? ⟨gb312,4,none⟩ = some (.slice none 0 0):=(blk_cell BK312.out 4).trans rfl;have hfz99_0:=blk_frozen BK312.out 0;have hfz99_1:=blk_frozen BK312.out 1;have hfz99_2:=blk_frozen BK312.out 2;have hfz99_3:=blk_frozen BK312.out 3;have hfz99_4:=blk_frozen BK312.out 4))
      refine bodyPost_ret (results_ct rfl _ _ gb312 51 #[.slice Ao88 x327000_2.length co88,.slice (some ⟨go83,0,none⟩) t316.length co18,.slice Ao92 x327002_2.length co92,.int .i64 t322,.slice Ao20 t323.length co20] (0,0) _ rfl (kq BK312) Try.underlying51 rfl (by kernel_rfl)) rfl ?_
      exact ⟨_,_,_,_,by first | rfl | (simp [errW_none,errW_some] <;> rfl) | (simp [*,errW_none,errW_some] <;> rfl),rfa HO_327000,rfa HO_327001,rfa HO_327002,rfa HO_327004,rbx HB⟩
     rw [if_neg c80] at H
     have c80b0 : decide (t336 < 0) = false:=decide_eq_false c80
     clear c80
     by_cases c100 : 0 ≤ t336
     rotate_left
     ·rw [if_neg c100] at H
      exact absurd H (by simp)
     rw [if_pos c100] at H
     have c100b0 : decide (0 ≤ t336) = true:=decide_eq_true c100
     clear c100
     by_cases c101 : t336 < (x327002_2.length : Int)
     rotate_left
     ·rw [if_neg c101] at H
      exact absurd H (by simp)
     rw [if_pos c101] at H
     have c101b0 : decide (t336 < (x327002_2.length : Int)) = true:=decide_eq_true c101
     clear c101
     by_cases c102 : x327000_2.length < 2932031007402
     rotate_left
     ·rw [if_neg c102] at H
      exact absurd H (by simp)
     rw [if_pos c102] at H
     have LMc102:=ak c102
     clear c102
     obtain ⟨y339,hy339⟩ : ∃ y_ : List (S134),y_ = (x327000_2 ++ [(⟨a1_1,x7_2,(⟨(rd_T127 x327002_2 t336).f2.f0,(rd_T127 x327002_2 t336).f2.f1,(rd_T127 x327002_2 t336).f2.f2,(rd_T127 x327002_2 t336).f2.f3⟩ : S34)⟩ : S134)]):=⟨_,rfl⟩
     replace H : ((some (([] : List (S127)) : List (S127))).bind fun y342=>(if t336 ≤ (x327002_2.length : Int) then ((some (x327002_2.take (t336 : Int).toNat : List (S127))).bind fun y345=>(if y342.length + y345.length < 2932031007402 then ((some (y342 ++ y345 : List (S127))).bind fun y349=>(if 0 ≤ (wrap64 (t336 + 1)) then (if (wrap64 (t336 + 1)) ≤ (x327002_2.length : Int) then ((some (x327002_2.drop ((wrap64 (t336 + 1)) : Int).toNat : List (S127))).bind fun y352=>(if y349.length + y352.length < 2932031007402 then (spec_Kept.l0 k2 (wrap64 (x7_2 + 1)) a1_0 a1_1 a1_2 a1_3 a1_4 a1_5 a1_6 y339 t316 (y349 ++ y352) t322 t323) else (none))) else (none)) else (none))) else (none))) else (none))) = some (r1,r2,r3,r4,r5,r6):=by first | (rw [hy339];with_reducible exact H) | (have H2_:=(Option.bind_some _ _).symm.trans H;rw [hy339];with_reducible exact H2_) | (have H2_:=(Option.bind_some _ _).symm.trans H;with_reducible exact H2_) | with_reducible exact H | (rw [hy339];exact H) | exact H
     have Ny339:=ak hy339
     clear hy339
     obtain ⟨y342,hy342⟩ : ∃ y_ : List (S127),y_ = (([] : List (S127))):=⟨_,rfl⟩
     replace H : (if t336 ≤ (x327002_2.length : Int) then ((some (x327002_2.take (t336 : Int).toNat : List (S127))).bind fun y345=>(if y342.length + y345.length < 2932031007402 then ((some (y342 ++ y345 : List (S127))).bind fun y349=>(if 0 ≤ (wrap64 (t336 + 1)) then (if (wrap64 (t336 + 1)) ≤ (x327002_2.length : Int) then ((some (x327002_2.drop ((wrap64 (t336 + 1)) : Int).toNat : List (S127))).bind fun y352=>(if y349.length + y352.length < 2932031007402 then (spec_Kept.l0 k2 (wrap64 (x7_2 + 1)) a1_0 a1_1 a1_2 a1_3 a1_4 a1_5 a1_6 y339 t316 (y349 ++ y352) t322 t323) else (none))) else (none)) else (none))) else (none))) else (none)) = some (r1,r2,r3,r4,r5,r6):=by first | (rw [hy342];with_reducible exact H) | (have H2_:=(Option.bind_some _ _).symm.trans H;rw [hy342];with_reducible exact H2_) | (have H2_:=(Option.bind_some _ _).symm.trans H;with_reducible exact H2_) | with_reducible exact H | (rw [hy342];exact H) | exact H
     have Ny342:=ak hy342
     clear hy342
     have c103b0:=eq_true (of_decide_eq_true (by first | (with_reducible assumption) | assumption) : 0 ≤ t336)
     by_cases c104 : t336 ≤ (x327002_2.length : Int)
     rotate_left
     ·rw [if_neg c104] at H
      exact absurd H (by simp)
     rw [if_pos c104] at H
     have c104b0:=eq_true c104
     have c104b1 : decide (t336 ≤ (x327002_2.length : Int)) = true:=decide_eq_true c104
     clear c104
     obtain ⟨y345,hy345⟩ : ∃ y_ : List (S127),y_ = (x327002_2.take (t336 : Int).toNat):=⟨_,rfl⟩
     replace H : (if y342.length + y345.length < 2932031007402 then ((some (y342 ++ y345 : List (S127))).bind fun y349=>(if 0 ≤ (wrap64 (t336 + 1)) then (if (wrap64 (t336 + 1)) ≤ (x327002_2.length : Int) then ((some (x327002_2.drop ((wrap64 (t336 + 1)) : Int).toNat : List (S127))).bind fun y352=>(if y349.length + y352.length < 2932031007402 then (spec_Kept.l0 k2 (wrap64 (x7_2 + 1)) a1_0 a1_1 a1_2 a1_3 a1_4 a1_5 a1_6 y339 t316 (y349 ++ y352) t322 t323) else (none))) else (none)) else (none))) else (none)) = some (r1,r2,r3,r4,r5,r6):=by first | (rw [hy345];with_reducible exact H) | (have H2_:=(Option.bind_some _ _).symm.trans H;rw [hy345];with_reducible exact H2_) | (have H2_:=(Option.bind_some _ _).symm.trans H;with_reducible exact H2_) | with_reducible exact H | (rw [hy345];exact H) | exact H
     have Ny345:=ak hy345
     clear hy345
     by_cases c105 : y342.length + y345.length < 2932031007402
     rotate_left
     ·rw [if_neg c105] at H
      exact absurd H (by simp)
     rw [if_pos c105] at H
     have LMc105:=ak c105
     clear c105
     obtain ⟨y349,hy349⟩ : ∃ y_ : List (S127),y_ = (y342 ++ y345):=⟨_,rfl⟩
     replace H : (if 0 ≤ (wrap64 (t336 + 1)) then (if (wrap64 (t336 + 1)) ≤ (x327002_2.length : Int) then ((some (x327002_2.drop ((wrap64 (t336 + 1)) : Int).toNat : List (S127))).bind fun y352=>(if y349.length + y352.length < 2932031007402 then (spec_Kept.l0 k2 (wrap64 (x7_2 + 1)) a1_0 a1_1 a1_2 a1_3 a1_4 a1_5 a1_6 y339 t316 (y349 ++ y352) t322 t323) else (none))) else (none)) else (none)) = some (r1,r2,r3,r4,r5,r6):=by first | (rw [hy349];with_reducible exact H) | (have H2_:=(Option.bind_some _ _).symm.trans H;rw [hy349];with_reducible exact H2_) | (have H2_:=(Option.bind_some _ _).symm.trans H;with_reducible exact H2_) | with_reducible exact H | (rw [hy349];exact H) | exact H
     have Ny349:=ak hy349
     clear hy349
     obtain ⟨ji106,hji106⟩ : ∃ j_ : Int,(wrap64 (t336 + 1)) = j_:=⟨_,rfl⟩
     replace H : (if 0 ≤ (ji106) then (if (ji106) ≤ (x327002_2.length : Int) then ((some (x327002_2.drop ((ji106) : Int).toNat : List (S127))).bind fun y352=>(if y349.length + y352.length < 2932031007402 then (spec_Kept.l0 k2 (wrap64 (x7_2 + 1)) a1_0 a1_1 a1_2 a1_3 a1_4 a1_5 a1_6 y339 t316 (y349 ++ y352) t322 t323) else (none))) else (none)) else (none)) = some (r1,r2,r3,r4,r5,r6):=by first | (rw [hji106] at H;exact H) | (simp only [hji106] at H ⊢;exact H)
     (try rw [hji106] at A79)
     have hji106w : (IntKind.i64.wrap (t336 + 1)) = ji106:=(i64_w _).trans hji106
     by_cases c107 : 0 ≤ (ji106)
     rotate_left
     ·rw [if_neg c107] at H
      exact absurd H (by simp)
     rw [if_pos c107] at H
     have c107b0:=eq_true c107
     have c107b1 : decide (0 ≤ (ji106)) = true:=decide_eq_true c107
     clear c107
     by_cases c108 : (ji106) ≤ (x327002_2.length : Int)
     rotate_left
     ·rw [if_neg c108] at H
      exact absurd H (by simp)
     rw [if_pos c108] at H
     have c108b0:=eq_true c108
     have c108b1 : decide ((ji106) ≤ (x327002_2.length : Int)) = true:=decide_eq_true c108
     clear c108
     obtain ⟨y352,hy352⟩ : ∃ y_ : List (S127),y_ = (x327002_2.drop ((ji106) : Int).toNat):=⟨_,rfl⟩
     replace H : (if y349.length + y352.length < 2932031007402 then (spec_Kept.l0 k2 (wrap64 (x7_2 + 1)) a1_0 a1_1 a1_2 a1_3 a1_4 a1_5 a1_6 y339 t316 (y349 ++ y352) t322 t323) else (none)) = some (r1,r2,r3,r4,r5,r6):=by first | (rw [hy352];with_reducible exact H) | (have H2_:=(Option.bind_some _ _).symm.trans H;rw [hy352];with_reducible exact H2_) | (have H2_:=(Option.bind_some _ _).symm.trans H;with_reducible exact H2_) | with_reducible exact H | (rw [hy352];exact H) | exact H
     have Ny352:=ak hy352
     clear hy352
     by_cases c109 : y349.length + y352.length < 2932031007402
     rotate_left
     ·rw [if_neg c109] at H
      exact absurd H (by simp)
     rw [if_pos c109] at H
     have LMc109:=ak c109
     clear c109
     obtain ⟨y356,hy356⟩ : ∃ y_ : List (S127),y_ = (y349 ++ y352):=⟨_,rfl⟩
     replace H : (spec_Kept.l0 k2 (wrap64 (x7_2 + 1)) a1_0 a1_1 a1_2 a1_3 a1_4 a1_5 a1_6 y339 t316 y356 t322 t323) = some (r1,r2,r3,r4,r5,r6):=by first | (rw [hy356];with_reducible exact H) | (have H2_:=(Option.bind_some _ _).symm.trans H;rw [hy356];with_reducible exact H2_) | (have H2_:=(Option.bind_some _ _).symm.trans H;with_reducible exact H2_) | with_reducible exact H | (rw [hy356];exact H) | exact H
     have Ny356:=ak hy356
     clear hy356
     have H':=ak H
     clear H
     have hnb110:=NB326_310.out
     have hnc110:=NB310_326.out
     have hnb111:=NB326_311.out
     have hnc111:=NB311_326.out
     have hnb112:=NB326_312.out
     have hnc112:=NB312_326.out
     have hz113:=bc5 BK326
     obtain ⟨Ao114,co114,eo114⟩:=Kd.R_slice HO_327000.out
     subst eo114
     have hnb115:=NB311_310.out
     have hnc115:=NB310_311.out
     have hnb116:=NB311_312.out
     have hnc116:=NB312_311.out
     have hz117:=bc7 BK311
     obtain ⟨Ao118,co118,eo118⟩:=Kd.R_slice HO_327002.out
     subst eo118
     try go_wp2_with (first | ((with_reducible refine gc (f:=103) rfl ?_);refine gl (some 107) Try.func103 #[.slice Ao118 x327002_2.length co118,.int .i64 a1_1,.int .i64 x7_2] ?_;(with_reducible refine (spec_l20Early.calls k2 _ _ x327002_2 a1_1 x7_2 t336 _ ?side1 ?side2 A79.out).mono ?_);(case side1=>exact rc (Kd.R_reads' HO_327002.out).2.2);(case side2=>exact (Kd.R_reads' HO_327002.out).2.1);rintro e w' ⟨rfl,⟨nd,rfl⟩⟩;refine ⟨_,rfl,?_⟩;(try (rw [drewN_self wr];generalize hq_ : World.drewN wr _ = wr;have n0_ : Aside0 (Kd.R k134 134 wr w.heap.size (fun _=>True) (.slice Ao114 x327000_2.length co114) x327000_2):=⟨by rw [← hq_];exact (rr HO_327000.out)⟩;have n1_ : Aside0 (Kd.R (Kd.int .i64) 3 wr w.heap.size (fun k_=>some k_ ≠ (.slice Ao20 t323.length co20 : Value).ownBlock) (.slice Ao18 t316.length co18) t316):=⟨by rw [← hq_];exact (rr HO_327001.out)⟩;have n2_ : Aside0 (Kd.R k127 127 wr w.heap.size (fun _=>True) (.slice Ao118 x327002_2.length co118) x327002_2):=⟨by rw [← hq_];exact (rr HO_327002.out)⟩;have n3_ : Aside0 (Kd.R (Kd.int .i64) 3 wr w.heap.size (fun k_=>some k_ ≠ (.slice Ao18 t316.length co18 : Value).ownBlock) (.slice Ao20 t323.length co20) t323):=⟨by rw [← hq_];exact (rr HO_327004.out)⟩;have n4_ : Aside0 (wr.heap[gb310]? = some (.cells #[.slice A0_0 l0_0.length c0_0,.slice (some ad328) l0_1.length c0_1,.slice A0_2 l0_2.length c0_2,.int .i64 a0_3,.slice A0_4 l0_4.length c0_4] 51 (0,0))):=⟨by rw [← hq_];exact (rk BK310.out)⟩;have n5_ : Aside0 (wr.heap[gb311]? = some (.cells #[.int .i64 a1_0,.int .i64 a1_1,.int .i64 a1_2,.int .i64 a1_3,.int .i64 a1_4,.int .i64 a1_5,.int .i64 a1_6] 36 (0,0))):=⟨by rw [← hq_];exact (rk BK311.out)⟩;have n6_ : Aside0 (wr.heap[gb312]? = some (.cells #[.slice none 0 0,.slice none 0 0,.slice none 0 0,.int .i64 0,.slice none 0 0] 51 (0,0))):=⟨by rw [← hq_];exact (rk BK312.out)⟩;have n7_ : Aside0 (wr.heap[gb326]? = some (.cells #[.slice Ao114 x327000_2.length co114,.slice Ao18 t316.length co18,.slice Ao118 x327002_2.length co118,.int .i64 t322,.slice Ao20 t323.length co20] 51 (0,0))):=⟨by rw [← hq_];exact (rk BK326.out)⟩;have n8_ : Aside0 (Below w.heap.size w wr):=⟨by rw [← hq_];exact (rb4 GE310.out GE311.out GE312.out GE326.out HB.out)⟩;clear HO_327000 HO_327001 HO_327002 HO_327004 BK310 BK311 BK312 BK326 HB hq_;have HO_327000:=n0_;have HO_327001:=n1_;have HO_327002:=n2_;have HO_327004:=n3_;have BK310:=n4_;have BK311:=n5_;have BK312:=n6_;have BK326:=n7_;have HB:=n8_;clear n0_ n1_ n2_ n3_ n4_ n5_ n6_ n7_ n8_))))
     have n_ : _∧_∧_∧_∧_∧_∧_∧_∧_:=⟨ak (Kd.R_drew HO_327000.out),ak (Kd.R_drew HO_327001.out),ak (Kd.R_drew HO_327002.out),ak (Kd.R_drew HO_327004.out),ak (blk_drew BK310.out),ak (blk_drew BK311.out),ak (blk_drew BK312.out),ak (blk_drew BK326.out),ak (below_drew1 HB.out)⟩
     clear HO_327000 HO_327001 HO_327002 HO_327004 BK310 BK311 BK312 BK326 HB
     obtain ⟨HO_327000,HO_327001,HO_327002,HO_327004,BK310,BK311,BK312,BK326,HB⟩:=n_
     have p338 : 0 ≤ (t336 : Int):=of_decide_eq_true (by first | (with_reducible assumption) | assumption)
     have q338 : t336 < (x327002_2.length : Int):=of_decide_eq_true (by first | (with_reducible assumption) | assumption)
     obtain ⟨ad338,e338,hx338_0,hx338_1,hx338_2,hx338_3,hx338_4,hx338_5⟩:=at_T127 (Kd.R_reads' HO_327002.out).2.2 t336 p338 q338
     cases e338
     replace p338:=eq_true p338
     replace q338:=eq_true q338
     refine start_ (n:=16) (S:=fun w'=>w'.cell? ⟨gb326,0,none⟩ = some (.slice Ao114 x327000_2.length co114)∧w'.cell? ⟨gb326,1,none⟩ = some (.slice Ao18 t316.length co18)∧w'.cell? ⟨gb326,2,none⟩ = some (.slice (some ad338) x327002_2.length co118)∧w'.cell? ⟨gb326,3,none⟩ = some (.int .i64 t322)∧w'.cell? ⟨gb326,4,none⟩ = some (.slice Ao20 t323.length co20)∧w'.cell? ⟨gb311,0,none⟩ = some (.int .i64 a1_0)∧w'.cell? ⟨gb311,1,none⟩ = some (.int .i64 a1_1)∧w'.cell? ⟨gb311,2,none⟩ = some (.int .i64 a1_2)∧w'.cell? ⟨gb311,3,none⟩ = some (.int .i64 a1_3)∧w'.cell? ⟨gb311,4,none⟩ = some (.int .i64 a1_4)∧w'.cell? ⟨gb311,5,none⟩ = some (.int .i64 a1_5)∧w'.cell? ⟨gb311,6,none⟩ = some (.int .i64 a1_6)∧w'.cell? (ad338.add ((t336).toNat * 6)) = some (.int .i64 ((rd_T127 x327002_2 t336).f0))∧w'.cell? ⟨(ad338.add ((t336).toNat * 6)).block,(ad338.add ((t336).toNat * 6)).off + 1,none⟩ = some (.int .i64 ((rd_T127 x327002_2 t336).f1))∧w'.cell? ⟨(ad338.add ((t336).toNat * 6)).block,(ad338.add ((t336).toNat * 6)).off + 2,none⟩ = some (.int .i64 ((rd_T127 x327002_2 t336).f2.f0))∧w'.cell? ⟨(ad338.add ((t336).toNat * 6)).block,(ad338.add ((t336).toNat * 6)).off + 3,none⟩ = some (.int .i64 ((rd_T127 x327002_2 t336).f2.f1))∧w'.cell? ⟨(ad338.add ((t336).toNat * 6)).block,(ad338.add ((t336).toNat * 6)).off + 4,none⟩ = some (.int .i64 ((rd_T127 x327002_2 t336).f2.f2))∧w'.cell? ⟨(ad338.add ((t336).toNat * 6)).block,(ad338.add ((t336).toNat * 6)).off + 5,none⟩ = some (.int .i64 ((rd_T127 x327002_2 t336).f2.f3))) (ds:=[13,15]) #[false,false,false,false,false,false,false,false,false,false,false,false,false,false,false,false] (by kernel_rfl) rfl rfl ⟨(blk_cell BK326.out 0).trans rfl,(blk_cell BK326.out 1).trans rfl,(blk_cell BK326.out 2).trans rfl,(blk_cell BK326.out 3).trans rfl,(blk_cell BK326.out 4).trans rfl,(blk_cell BK311.out 0).trans rfl,(blk_cell BK311.out 1).trans rfl,(blk_cell BK311.out 2).trans rfl,(blk_cell BK311.out 3).trans rfl,(blk_cell BK311.out 4).trans rfl,(blk_cell BK311.out 5).trans rfl,(blk_cell BK311.out 6).trans rfl,hx338_0,hx338_1,hx338_2,hx338_3,hx338_4,hx338_5⟩ (fun hHeld=>?_);refine with_tabW spec_Kept.tab14 spec_Kept.bits14 (fun HT_ HW_=>?_)
     generalize wr.drew = w119 at HO_327000 HO_327001 HO_327002 HO_327004 BK310 BK311 BK312 BK326 HB hx338_0 hx338_1 hx338_2 hx338_3 hx338_4 hx338_5 hHeld ⊢
     refine pure_ (i:=0) (N:=some 110) (v:=?_) (a':=?_) #[true,false,false,false,false,false,false,false,false,false,false,false,false,false,false,false] rfl rfl (any_of HT_.out (by kernel_rfl)) (fun _ _ _ h=>h) (Or.inl ⟨by rfl,?_⟩) ?_ ?_
     rotate_left
     ·intro w'
      go_simp
      with_reducible rfl
     rotate_left
     ·simp only [Act.put,List.setIfInBounds_toArray,List.set_cons_zero,List.set_cons_succ,i64_w,i32_w]
      rfl
     refine pure_ (i:=2) (N:=some 112) (v:=?_) (a':=?_) #[true,false,true,false,false,false,false,false,false,false,false,false,false,false,false,false] rfl rfl (any_of HT_.out (by kernel_rfl)) (fun _ _ _ h=>h) (Or.inl ⟨by rfl,?_⟩) ?_ ?_
     rotate_left
     ·intro w'
      go_simp
      with_reducible rfl
     rotate_left
     ·simp only [Act.put,List.setIfInBounds_toArray,List.set_cons_zero,List.set_cons_succ,i64_w,i32_w]
      rfl
     refine pure_ (i:=4) (N:=some 114) (v:=?_) (a':=?_) #[true,false,true,false,true,false,false,false,false,false,false,false,false,false,false,false] rfl rfl (any_of HT_.out (by kernel_rfl)) (fun _ _ _ h=>h) (Or.inl ⟨by rfl,?_⟩) ?_ ?_
     rotate_left
     ·intro w'
      go_simp
      with_reducible rfl
     rotate_left
     ·simp only [Act.put,List.setIfInBounds_toArray,List.set_cons_zero,List.set_cons_succ,i64_w,i32_w]
      rfl
     refine pure_ (i:=5) (N:=some 115) (v:=?_) (a':=?_) #[true,false,true,false,true,true,false,false,false,false,false,false,false,false,false,false] rfl rfl (any_of HT_.out (by kernel_rfl)) (fun _ _ _ h=>h) (Or.inl ⟨by rfl,?_⟩) ?_ ?_
     rotate_left
     ·intro w'
      go_simp
      with_reducible rfl
     rotate_left
     ·simp only [Act.put,List.setIfInBounds_toArray,List.set_cons_zero,List.set_cons_succ,i64_w,i32_w]
      rfl
     refine pure_ (i:=7) (N:=some 117) (v:=?_) (a':=?_) #[true,false,true,false,true,true,false,true,false,false,false,false,false,false,false,false] rfl rfl (any_of HT_.out (by kernel_rfl)) (fun _ _ _ h=>h) (Or.inl ⟨by rfl,?_⟩) ?_ ?_
     rotate_left
     ·intro w'
      go_simp
      with_reducible rfl
     rotate_left
     ·simp only [Act.put,List.setIfInBounds_toArray,List.set_cons_zero,List.set_cons_succ,i64_w,i32_w]
      rfl
     refine take_ (i:=1) (N:=some 111) (v:=?_) (a':=?_) #[true,true,true,false,true,true,false,true,false,false,false,false,false,false,false,false] rfl rfl (take_ofW HT_.out HW_.out (by kernel_rfl)) (fun _ _ _ h=>h) (Or.inl ⟨by rfl,?_⟩) hHeld ?_ ?_
     rotate_left
     ·rintro w' ⟨s0,s1,s2,s3,s4,s5,s6,s7,s8,s9,s10,s11,s12,s13,s14,s15,s16,s17⟩
      go_simp
      with_reducible rfl
     rotate_left
     ·simp only [Act.put,List.setIfInBounds_toArray,List.set_cons_zero,List.set_cons_succ,i64_w,i32_w]
      rfl
     refine take_ (i:=3) (N:=some 113) (v:=?_) (a':=?_) #[true,true,true,true,true,true,false,true,false,false,false,false,false,false,false,false] rfl rfl (take_ofW HT_.out HW_.out (by kernel_rfl)) (fun _ _ _ h=>h) (Or.inl ⟨by rfl,?_⟩) hHeld ?_ ?_
     rotate_left
     ·rintro w' ⟨s0,s1,s2,s3,s4,s5,s6,s7,s8,s9,s10,s11,s12,s13,s14,s15,s16,s17⟩
      go_simp
      with_reducible rfl
     rotate_left
     ·simp only [Act.put,List.setIfInBounds_toArray,List.set_cons_zero,List.set_cons_succ,i64_w,i32_w]
      rfl
     refine take_ (i:=6) (N:=some 116) (v:=?_) (a':=?_) #[true,true,true,true,true,true,true,true,false,false,false,false,false,false,false,false] rfl rfl (take_ofW HT_.out HW_.out (by kernel_rfl)) (fun _ _ _ h=>h) (Or.inl ⟨by rfl,?_⟩) hHeld ?_ ?_
     rotate_left
     ·rintro w' ⟨s0,s1,s2,s3,s4,s5,s6,s7,s8,s9,s10,s11,s12,s13,s14,s15,s16,s17⟩
      go_simp
      with_reducible rfl
     rotate_left
     ·simp only [Act.put,List.setIfInBounds_toArray,List.set_cons_zero,List.set_cons_succ,i64_w,i32_w]
      rfl
     refine pure_ (i:=8) (N:=some 118) (v:=?_) (a':=?_) #[true,true,true,true,true,true,true,true,true,false,false,false,false,false,false,false] rfl rfl (any_of HT_.out (by kernel_rfl)) (fun _ _ _ h=>h) (Or.inl ⟨by rfl,?_⟩) ?_ ?_
     rotate_left
     ·intro w'
      go_simp
      with_reducible rfl
     rotate_left
     ·simp only [Act.put,List.setIfInBounds_toArray,List.set_cons_zero,List.set_cons_succ,i64_w,i32_w]
      rfl
     refine pure_ (i:=9) (N:=some 119) (v:=?_) (a':=?_) #[true,true,true,true,true,true,true,true,true,true,false,false,false,false,false,false] rfl rfl (any_of HT_.out (by kernel_rfl)) (fun _ _ _ h=>h) (Or.inl ⟨by rfl,?_⟩) ?_ ?_
     rotate_left
     ·intro w'
      go_simp
      with_reducible rfl
     rotate_left
     ·simp only [Act.put,List.setIfInBounds_toArray,List.set_cons_zero,List.set_cons_succ,i64_w,i32_w]
      rfl
     refine take_ (i:=10) (N:=some 120) (v:=?_) (a':=?_) #[true,true,true,true,true,true,true,true,true,true,true,false,false,false,false,false] rfl rfl (take_ofW HT_.out HW_.out (by kernel_rfl)) (fun _ _ _ h=>h) (Or.inl ⟨by rfl,?_⟩) hHeld ?_ ?_
     rotate_left
     ·rintro w' ⟨s0,s1,s2,s3,s4,s5,s6,s7,s8,s9,s10,s11,s12,s13,s14,s15,s16,s17⟩
      go_simp
      with_reducible rfl
     rotate_left
     ·simp only [Act.put,List.setIfInBounds_toArray,List.set_cons_zero,List.set_cons_succ,i64_w,i32_w]
      rfl
     refine pure_ (i:=11) (N:=some 121) (v:=?_) (a':=?_) #[true,true,true,true,true,true,true,true,true,true,true,true,false,false,false,false] rfl rfl (any_of HT_.out (by kernel_rfl)) (fun _ _ _ h=>h) (Or.inl ⟨by rfl,?_⟩) ?_ ?_
     rotate_left
     ·intro w'
      go_simp
      with_reducible rfl
     rotate_left
     ·simp only [Act.put,List.setIfInBounds_toArray,List.set_cons_zero,List.set_cons_succ,i64_w,i32_w]
      rfl
     refine one_ (i:=12) (N:=some 122) #[true,true,true,true,true,true,true,true,true,true,true,true,true,false,false,false] rfl rfl (one_of HT_.out (by kernel_rfl)) (by decide) (fun K hK=>?_)
     refine value_ (w1:=?_) (v:=?_) (by rfl) rfl ?_ ?_
     rotate_left 2
     ·go_simp
      constructor
      ·rfl
      rfl
     refine hK.out _ _ ⟨(blk_cell (blk_alloc BK326.out _) 0).trans rfl,(blk_cell (blk_alloc BK326.out _) 1).trans rfl,(blk_cell (blk_alloc BK326.out _) 2).trans rfl,(blk_cell (blk_alloc BK326.out _) 3).trans rfl,(blk_cell (blk_alloc BK326.out _) 4).trans rfl,(blk_cell (blk_alloc BK311.out _) 0).trans rfl,(blk_cell (blk_alloc BK311.out _) 1).trans rfl,(blk_cell (blk_alloc BK311.out _) 2).trans rfl,(blk_cell (blk_alloc BK311.out _) 3).trans rfl,(blk_cell (blk_alloc BK311.out _) 4).trans rfl,(blk_cell (blk_alloc BK311.out _) 5).trans rfl,(blk_cell (blk_alloc BK311.out _) 6).trans rfl,(World.cell?_alloc_lt _ _ _ (World.block_lt_of_cell? _ _ (hHeld.2.2.2.2.2.2.2.2.2.2.2.2.1))).trans (hHeld.2.2.2.2.2.2.2.2.2.2.2.2.1),(World.cell?_alloc_lt _ _ _ (World.block_lt_of_cell? _ _ (hHeld.2.2.2.2.2.2.2.2.2.2.2.2.2.1))).trans (hHeld.2.2.2.2.2.2.2.2.2.2.2.2.2.1),(World.cell?_alloc_lt _ _ _ (World.block_lt_of_cell? _ _ (hHeld.2.2.2.2.2.2.2.2.2.2.2.2.2.2.1))).trans (hHeld.2.2.2.2.2.2.2.2.2.2.2.2.2.2.1),(World.cell?_alloc_lt _ _ _ (World.block_lt_of_cell? _ _ (hHeld.2.2.2.2.2.2.2.2.2.2.2.2.2.2.2.1))).trans (hHeld.2.2.2.2.2.2.2.2.2.2.2.2.2.2.2.1),(World.cell?_alloc_lt _ _ _ (World.block_lt_of_cell? _ _ (hHeld.2.2.2.2.2.2.2.2.2.2.2.2.2.2.2.2.1))).trans (hHeld.2.2.2.2.2.2.2.2.2.2.2.2.2.2.2.2.1),(World.cell?_alloc_lt _ _ _ (World.block_lt_of_cell? _ _ (hHeld.2.2.2.2.2.2.2.2.2.2.2.2.2.2.2.2.2))).trans (hHeld.2.2.2.2.2.2.2.2.2.2.2.2.2.2.2.2.2)⟩ (fun hHeld=>?_)
     clear hK K
     refine norm_ (a':=?_) ?_ ?_
     rotate_left
     ·show Act.put _ (some 122) _ = _
      simp only [Act.put,List.setIfInBounds_toArray,List.set_cons_zero,List.set_cons_succ,i64_w,i32_w]
      rfl
     refine last_ (i:=13) (N:=some 123) #[true,true,true,true,true,true,true,true,true,true,true,true,true,true,false,false] rfl rfl (one_of HT_.out (by kernel_rfl)) (by decide) (fun K hK=>?_)
     refine Kd.R_append_step k134 (w0:=w) w.heap.size (by rfl) (.tmp 111) (.tmp 122) 48 134 (.agg #[(.int .i64 0),(.int .i64 0),(.int .i64 0),(.int .i64 0),(.int .i64 0),(.int .i64 0)]) 48 rfl Try.underlying48 info134 rfl (by decide) (by omega) (.slice Ao114 x327000_2.length co114) x327000_2 (⟨a1_1,x7_2,(⟨(rd_T127 x327002_2 t336).f2.f0,(rd_T127 x327002_2 t336).f2.f1,(rd_T127 x327002_2 t336).f2.f2,(rd_T127 x327002_2 t336).f2.f3⟩ : S34)⟩ : S134) [.int .i64 a1_1,.int .i64 x7_2,.int .i64 ((rd_T127 x327002_2 t336).f2.f0),.int .i64 ((rd_T127 x327002_2 t336).f2.f1),.int .i64 ((rd_T127 x327002_2 t336).f2.f2),.int .i64 ((rd_T127 x327002_2 t336).f2.f3)] (fun _=>True) (fun _=>False) rfl rfl ?aP (fun _ hk=>hk.elim) ?aF ?aO ?aB ?aS ?aL ?_
     (case aP=>exact k134_mkM _ _ _ (⟨a1_1,x7_2,(⟨(rd_T127 x327002_2 t336).f2.f0,(rd_T127 x327002_2 t336).f2.f1,(rd_T127 x327002_2 t336).f2.f2,(rd_T127 x327002_2 t336).f2.f3⟩ : S34)⟩ : S134))
     (case aB=>exact (rb4 GE310.out GE311.out GE312.out GE326.out HB.out))
     (case aF=>exact (fun _ _=>trivial))
     (case aO=>exact (rr HO_327000.out))
     (case aS=>exact (below_size (rb4 GE310.out GE311.out GE312.out GE326.out HB.out)))
     (case aL=>have:=LMc102.out;omega)
     intro v340 w120 ho hb hg hat
     rw [← Ny339.out] at ho
     have n_ : _∧_∧_∧_∧_∧_∧_∧_∧_:=⟨ak (Kd.R_over' (rr HO_327001.out) (Kd.R_typed (rr HO_327000.out)) (by decide) hg),ak (Kd.R_over' (rr HO_327002.out) (Kd.R_typed (rr HO_327000.out)) (by decide) hg),ak (Kd.R_over' (rr HO_327004.out) (Kd.R_typed (rr HO_327000.out)) (by decide) hg),kg BK310 HO_327000 hg,kg BK311 HO_327000 hg,kg BK312 HO_327000 hg,kg BK326 HO_327000 hg,ak (hb),ak (ho)⟩
     clear HO_327001 HO_327002 HO_327004 BK310 BK311 BK312 BK326 HB HO_327000 ho hb hg hat
     obtain ⟨HO_327001,HO_327002,HO_327004,BK310,BK311,BK312,BK326,HB,HO341⟩:=n_
     obtain ⟨Ao121,co121,eo121⟩:=Kd.R_slice HO341.out
     (first | subst eo121 | (injection eo121 with f1_ f2_ f3_;have f4_:=f1_.symm;have f5_:=f3_.symm;clear f1_ f2_ f3_;subst f4_;subst f5_))
     refine hK.out _ _ ?_
     clear hK K
     refine norm_ (a':=?_) ?_ ?_
     rotate_left
     ·show Act.put _ (some 123) _ = _
      simp only [Act.put,List.setIfInBounds_toArray,List.set_cons_zero,List.set_cons_succ,i64_w,i32_w]
      rfl
     refine pure_ (i:=14) (N:=some 124) (v:=?_) (a':=?_) #[true,true,true,true,true,true,true,true,true,true,true,true,true,true,true,false] rfl rfl (any_of HT_.out (by kernel_rfl)) (fun _ _ _ h=>h) (Or.inl ⟨by rfl,?_⟩) ?_ ?_
     rotate_left
     ·intro w'
      go_simp
      with_reducible rfl
     rotate_left
     ·simp only [Act.put,List.setIfInBounds_toArray,List.set_cons_zero,List.set_cons_succ,i64_w,i32_w]
      rfl
     refine last_ (i:=15) (N:=none) #[true,true,true,true,true,true,true,true,true,true,true,true,true,true,true,true] rfl rfl (one_of HT_.out (by kernel_rfl)) (by decide) (fun K hK=>?_)
     have hs122 : w120.cell? ⟨gb326,0,none⟩ = some (.slice Ao114 x327000_2.length co114):=(blk_cell BK326.out 0).trans rfl
     have hfs122:=blk_frozen BK326.out 0
     have hns122_0:=NB310_326.out
     have hns122_1:=NB311_326.out
     have hns122_2:=NB312_326.out
     have hms122_0:=NB326_310.out
     have hms122_1:=NB326_311.out
     have hms122_2:=NB326_312.out
     refine skip_ (w1:=?_) (by rfl) rfl ?_ ?_
     rotate_left
     ·go_simp
      rfl
     refine hK.out _ _ ?_
     clear hK K
     refine done_ (done_of HT_.out (by kernel_rfl)) ?_
     try go_wp2
     have n0_ : Aside0 (Kd.R (Kd.int .i64) 3 (w120.setCell ⟨gb326,0,none⟩ (.slice Ao121 y339.length co121)) w.heap.size (fun k_=>some k_ ≠ (.slice Ao20 t323.length co20 : Value).ownBlock) (.slice Ao18 t316.length co18) t316):=⟨rfa HO_327001⟩
     have n1_ : Aside0 (Kd.R k127 127 (w120.setCell ⟨gb326,0,none⟩ (.slice Ao121 y339.length co121)) w.heap.size (fun _=>True) (.slice (some ad338) x327002_2.length co118) x327002_2):=⟨rfa HO_327002⟩
     have n2_ : Aside0 (Kd.R (Kd.int .i64) 3 (w120.setCell ⟨gb326,0,none⟩ (.slice Ao121 y339.length co121)) w.heap.size (fun k_=>some k_ ≠ (.slice Ao18 t316.length co18 : Value).ownBlock) (.slice Ao20 t323.length co20) t323):=⟨rfa HO_327004⟩
     have n3_ : Aside0 (Kd.R k134 134 (w120.setCell ⟨gb326,0,none⟩ (.slice Ao121 y339.length co121)) w.heap.size (fun _=>True) (.slice Ao121 y339.length co121) y339):=⟨rfa HO341⟩
     have n4_ : Aside0 ((w120.setCell ⟨gb326,0,none⟩ (.slice Ao121 y339.length co121)).heap[gb310]? = some (.cells #[.slice A0_0 l0_0.length c0_0,.slice (some ad328) l0_1.length c0_1,.slice A0_2 l0_2.length c0_2,.int .i64 a0_3,.slice A0_4 l0_4.length c0_4] 51 (0,0))):=⟨by (with_reducible repeat (first | refine blk_drewN ?_ _ | refine blk_drew ?_ | refine blk_alloc ?_ _));refine blk_far ?_ NB310_326.out _;(with_reducible repeat (first | refine blk_drewN ?_ _ | refine blk_drew ?_ | refine blk_alloc ?_ _));exact BK310.out⟩
     have n5_ : Aside0 ((w120.setCell ⟨gb326,0,none⟩ (.slice Ao121 y339.length co121)).heap[gb311]? = some (.cells #[.int .i64 a1_0,.int .i64 a1_1,.int .i64 a1_2,.int .i64 a1_3,.int .i64 a1_4,.int .i64 a1_5,.int .i64 a1_6] 36 (0,0))):=⟨by (with_reducible repeat (first | refine blk_drewN ?_ _ | refine blk_drew ?_ | refine blk_alloc ?_ _));refine blk_far ?_ NB311_326.out _;(with_reducible repeat (first | refine blk_drewN ?_ _ | refine blk_drew ?_ | refine blk_alloc ?_ _));exact BK311.out⟩
     have n6_ : Aside0 ((w120.setCell ⟨gb326,0,none⟩ (.slice Ao121 y339.length co121)).heap[gb312]? = some (.cells #[.slice none 0 0,.slice none 0 0,.slice none 0 0,.int .i64 0,.slice none 0 0] 51 (0,0))):=⟨by (with_reducible repeat (first | refine blk_drewN ?_ _ | refine blk_drew ?_ | refine blk_alloc ?_ _));refine blk_far ?_ NB312_326.out _;(with_reducible repeat (first | refine blk_drewN ?_ _ | refine blk_drew ?_ | refine blk_alloc ?_ _));exact BK312.out⟩
     have n7_ : Aside0 ((w120.setCell ⟨gb326,0,none⟩ (.slice Ao121 y339.length co121)).heap[gb326]? = some (.cells #[.slice Ao121 y339.length co121,.slice Ao18 t316.length co18,.slice (some ad338) x327002_2.length co118,.int .i64 t322,.slice Ao20 t323.length co20] 51 (0,0))):=⟨by (with_reducible repeat (first | refine blk_drewN ?_ _ | refine blk_drew ?_ | refine blk_alloc ?_ _));refine blk_put (cs:=#[.slice Ao114 x327000_2.length co114,.slice Ao18 t316.length co18,.slice (some ad338) x327002_2.length co118,.int .i64 t322,.slice Ao20 t323.length co20]) ?_ 0 _ rfl;(with_reducible repeat (first | refine blk_drewN ?_ _ | refine blk_drew ?_ | refine blk_alloc ?_ _));exact BK326.out⟩
     have n8_ : Aside0 (Below w.heap.size w (w120.setCell ⟨gb326,0,none⟩ (.slice Ao121 y339.length co121))):=⟨rbx HB⟩
     (try clear HO_327001)
     (try clear HO_327002)
     (try clear HO_327004)
     (try clear HO341)
     (try clear BK310)
     (try clear BK311)
     (try clear BK312)
     (try clear BK326)
     (try clear HB)
     generalize (w120.setCell ⟨gb326,0,none⟩ (.slice Ao121 y339.length co121)) = w123 at n0_ n1_ n2_ n3_ n4_ n5_ n6_ n7_ n8_ ⊢
     have HO_327001:=n0_
     have HO_327002:=n1_
     have HO_327004:=n2_
     have HO341:=n3_
     have BK310:=n4_
     have BK311:=n5_
     have BK312:=n6_
     have BK326:=n7_
     have HB:=n8_
     clear n0_ n1_ n2_ n3_ n4_ n5_ n6_ n7_ n8_
     have n_ : _∧_∧_∧_∧_∧_∧_∧_∧_:=⟨ak (Kd.R_drew HO_327001.out),ak (Kd.R_drew HO_327002.out),ak (Kd.R_drew HO_327004.out),ak (Kd.R_drew HO341.out),ak (blk_drew BK310.out),ak (blk_drew BK311.out),ak (blk_drew BK312.out),ak (blk_drew BK326.out),ak (below_drew1 HB.out)⟩
     clear HO_327001 HO_327002 HO_327004 HO341 BK310 BK311 BK312 BK326 HB
     obtain ⟨HO_327001,HO_327002,HO_327004,HO341,BK310,BK311,BK312,BK326,HB⟩:=n_
     have q125 : (t336 : Int) ≤ ((x327002_2.length : Int) : Int):=of_decide_eq_true (by first | (with_reducible assumption) | assumption)
     obtain ⟨i0125,hi0125,_,hsz125,_⟩:=info_parts info127
     have hroom125 : x327002_2.length ≤ co118:=(Kd.R_reads' HO_327002.out).2.1
     have hC125 : Kd.C k127 _ (some ad338) x327002_2.length x327002_2:=(Kd.R_reads' HO_327002.out).2.2
     have hcut125:=cut_to (P:=Try.prog) 49 127 .i64 Try.underlying49 hi0125 (some ad338) x327002_2.length co118 t336 (of_decide_eq_true (by first | (with_reducible assumption) | assumption)) q125 hroom125
     have hr125:=Kd.C_take (m:=(t336 : Int).toNat) hC125 (by omega)
     have hy125 : y345.length = (t336 : Int).toNat:=(by rw [Ny345.out,List.length_take];omega)
     rw [← Ny345.out] at hr125
     rw [← hy125] at hcut125
     have HR348:=ak hr125
     have HC348:=ak (show y345.length ≤ co118 from by omega)
     clear hr125 hC125 hroom125 hi0125 hsz125
     have KY125:=ak hy125
     clear hy125
     have KL125:=ak (show (t336 : Int).toNat ≤ x327002_2.length from by omega)
     replace q125:=eq_true q125
     have q126 : ((ji106) : Int) ≤ ((x327002_2.length : Int) : Int):=of_decide_eq_true (by first | (with_reducible assumption) | assumption)
     obtain ⟨i0126,hi0126,_,hsz126,_⟩:=info_parts info127
     have hroom126 : x327002_2.length ≤ co118:=(Kd.R_reads' HO_327002.out).2.1
     have hC126 : Kd.C k127 _ (some ad338) x327002_2.length x327002_2:=(Kd.R_reads' HO_327002.out).2.2
     have q0126 : (0 : Int) ≤ ((ji106) : Int):=of_decide_eq_true (by first | (with_reducible assumption) | assumption)
     have hcut126:=cut_from (P:=Try.prog) 49 127 .i64 Try.underlying49 hi0126 6 hsz126 (some ad338) x327002_2.length co118 (ji106) q0126 q126
     have hr126:=Kd.C_drop (m:=((ji106) : Int).toNat) (c:=co118) hC126 (by omega) hroom126
     obtain ⟨A126,hA126⟩ : ∃ A1,A1 = (if co118 = ((ji106) : Int).toNat then (some ad338) else ((some ad338) : Option Addr).map (·.add (((ji106) : Int).toNat * 6))):=⟨_,rfl⟩
     obtain ⟨c126,hc126⟩ : ∃ c1,c1 = co118 - ((ji106) : Int).toNat:=⟨_,rfl⟩
     have hy126 : y352.length = x327002_2.length - ((ji106) : Int).toNat:=(by rw [Ny352.out,List.length_drop] <;> omega)
     rw [show (x327002_2).drop ((ji106) : Int).toNat = y352 from Ny352.out.symm] at hr126
     replace hr126 : Kd.C k127 _ A126 y352.length y352:=(by rw [hA126];exact hr126)
     rw [← hy126,← hA126,← hc126] at hcut126
     have HR355:=ak hr126
     have HC355:=ak (show y352.length ≤ c126 from by rw [hy126,hc126];exact Nat.sub_le_sub_right hroom126 _)
     clear hr126 hC126 hroom126 hi0126 hsz126 hc126
     have KY126:=ak hy126
     have KA126:=ak hA126
     clear hy126 hA126
     have KL126:=ak (show ((ji106) : Int).toNat ≤ x327002_2.length from by omega)
     replace q126:=eq_true q126
     refine start_ (n:=14) (S:=fun w'=>w'.cell? ⟨gb326,0,none⟩ = some (.slice Ao121 y339.length co121)∧w'.cell? ⟨gb326,1,none⟩ = some (.slice Ao18 t316.length co18)∧w'.cell? ⟨gb326,2,none⟩ = some (.slice (some ad338) x327002_2.length co118)∧w'.cell? ⟨gb326,3,none⟩ = some (.int .i64 t322)∧w'.cell? ⟨gb326,4,none⟩ = some (.slice Ao20 t323.length co20)) (ds:=[13]) #[false,false,false,false,false,false,false,false,false,false,false,false,false,false] (by kernel_rfl) rfl rfl ⟨(blk_cell BK326.out 0).trans rfl,(blk_cell BK326.out 1).trans rfl,(blk_cell BK326.out 2).trans rfl,(blk_cell BK326.out 3).trans rfl,(blk_cell BK326.out 4).trans rfl⟩ (fun hHeld=>?_);refine with_tabW spec_Kept.tab15 spec_Kept.bits15 (fun HT_ HW_=>?_)
     generalize w123.drew = w124 at HO_327001 HO_327002 HO_327004 HO341 BK310 BK311 BK312 BK326 HB HR348 HR355 hHeld ⊢
     refine pure_ (i:=1) (N:=some 126) (v:=?_) (a':=?_) #[false,true,false,false,false,false,false,false,false,false,false,false,false,false] rfl rfl (any_of HT_.out (by kernel_rfl)) (fun _ _ _ h=>h) (Or.inl ⟨by rfl,?_⟩) ?_ ?_
     rotate_left
     ·intro w'
      go_simp
      with_reducible rfl
     rotate_left
     ·simp only [Act.put,List.setIfInBounds_toArray,List.set_cons_zero,List.set_cons_succ,i64_w,i32_w]
      rfl
     refine pure_ (i:=3) (N:=some 128) (v:=?_) (a':=?_) #[false,true,false,true,false,false,false,false,false,false,false,false,false,false] rfl rfl (any_of HT_.out (by kernel_rfl)) (fun _ _ _ h=>h) (Or.inl ⟨by rfl,?_⟩) ?_ ?_
     rotate_left
     ·intro w'
      go_simp
      with_reducible rfl
     rotate_left
     ·simp only [Act.put,List.setIfInBounds_toArray,List.set_cons_zero,List.set_cons_succ,i64_w,i32_w]
      rfl
     refine pure_ (i:=6) (N:=some 131) (v:=?_) (a':=?_) #[false,true,false,true,false,false,true,false,false,false,false,false,false,false] rfl rfl (any_of HT_.out (by kernel_rfl)) (fun _ _ _ h=>h) (Or.inl ⟨by rfl,?_⟩) ?_ ?_
     rotate_left
     ·intro w'
      go_simp
      with_reducible rfl
     rotate_left
     ·simp only [Act.put,List.setIfInBounds_toArray,List.set_cons_zero,List.set_cons_succ,i64_w,i32_w]
      rfl
     refine pure_ (i:=8) (N:=some 133) (v:=?_) (a':=?_) #[false,true,false,true,false,false,true,false,true,false,false,false,false,false] rfl rfl (any_of HT_.out (by kernel_rfl)) (fun _ _ _ h=>h) (Or.inl ⟨by rfl,?_⟩) ?_ ?_
     rotate_left
     ·intro w'
      go_simp
      with_reducible rfl
     rotate_left
     ·simp only [Act.put,List.setIfInBounds_toArray,List.set_cons_zero,List.set_cons_succ,i64_w,i32_w]
      rfl
     refine pure_ (i:=9) (N:=some 134) (v:=?_) (a':=?_) #[false,true,false,true,false,false,true,false,true,true,false,false,false,false] rfl rfl (any_of HT_.out (by kernel_rfl)) (fun _ _ _ h=>h) (Or.inl ⟨by rfl,?_⟩) ?_ ?_
     rotate_left
     ·intro w'
      go_simp
      with_reducible rfl
     rotate_left
     ·simp only [Act.put,List.setIfInBounds_toArray,List.set_cons_zero,List.set_cons_succ,i64_w,i32_w]
      rfl
     refine take_ (i:=2) (N:=some 127) (v:=?_) (a':=?_) #[false,true,true,true,false,false,true,false,true,true,false,false,false,false] rfl rfl (take_ofW HT_.out HW_.out (by kernel_rfl)) (fun _ _ _ h=>h) (Or.inl ⟨by rfl,?_⟩) hHeld ?_ ?_
     rotate_left
     ·rintro w' ⟨s0,s1,s2,s3,s4⟩
      go_simp
      with_reducible rfl
     rotate_left
     ·simp only [Act.put,List.setIfInBounds_toArray,List.set_cons_zero,List.set_cons_succ,i64_w,i32_w]
      rfl
     refine pure_ (i:=4) (N:=some 129) (v:=?_) (a':=?_) #[false,true,true,true,true,false,true,false,true,true,false,false,false,false] rfl rfl (any_of HT_.out (by kernel_rfl)) (fun _ _ _ h=>h) (Or.inl ⟨by rfl,?_⟩) ?_ ?_
     rotate_left
     ·intro w'
      go_simp
      with_reducible rfl
     rotate_left
     ·simp only [Act.put,List.setIfInBounds_toArray,List.set_cons_zero,List.set_cons_succ,i64_w,i32_w]
      rfl
     refine take_ (i:=7) (N:=some 132) (v:=?_) (a':=?_) #[false,true,true,true,true,false,true,true,true,true,false,false,false,false] rfl rfl (take_ofW HT_.out HW_.out (by kernel_rfl)) (fun _ _ _ h=>h) (Or.inl ⟨by rfl,?_⟩) hHeld ?_ ?_
     rotate_left
     ·rintro w' ⟨s0,s1,s2,s3,s4⟩
      go_simp
      with_reducible rfl
     rotate_left
     ·simp only [Act.put,List.setIfInBounds_toArray,List.set_cons_zero,List.set_cons_succ,i64_w,i32_w]
      rfl
     refine pure_ (i:=10) (N:=some 135) (v:=?_) (a':=?_) #[false,true,true,true,true,false,true,true,true,true,true,false,false,false] rfl rfl (any_of HT_.out (by kernel_rfl)) (fun _ _ _ h=>h) (Or.inl ⟨by rfl,?_⟩) ?_ ?_
     rotate_left
     ·intro w'
      go_simp
      with_reducible rfl
     rotate_left
     ·simp only [Act.put,List.setIfInBounds_toArray,List.set_cons_zero,List.set_cons_succ,i64_w,i32_w]
      rfl
     refine one_ (i:=0) (N:=some 125) #[true,true,true,true,true,false,true,true,true,true,true,false,false,false] rfl rfl (one_of HT_.out (by kernel_rfl)) (by decide) (fun K hK=>?_)
     refine Kd.R_lit_step k127 _ 127 ?hg (N:=125) ?hd (xs:=([] : List (S127))) (inner:=[]) (ok:=fun _=>True) (okp:=fun _=>True) ?hr ?hp (fun _ hk=>hk) trivial (Below.refl _ _) (Nat.le_refl _) (by simp) ?_;(case hd=>rfl);(case hg=>rfl);(case hr=>first | (go_simp;done) | (go_simp;rfl));(case hp=>exact (Reps.none _ _))
     intro v343 w127 ho128 hb hg_ hnew_
     clear hg_ hnew_
     (first | rw [← Ny342.out] at ho128 | (simp only [Int.reduceToNat] at ho128;rw [← Ny342.out] at ho128))
     have n_ : _∧_∧_∧_∧_∧_∧_∧_∧_∧_∧_∧_:=⟨ka HO_327001 hb,ke HO_327002 ho128 hb,ka HO_327004 hb,ka HO341 hb,kl (kn ho128 HO_327002) HB,kb BK310 hb,kb BK311 hb,kb BK312 hb,kb BK326 hb,ak (Kd.C_below (by repeat (first | (with_reducible exact HR348.out) | (with_reducible refine Kd.C_alloc ?_ _) | (with_reducible refine Kd.C_drewN ?_ _) | (with_reducible refine Kd.C_drew ?_) | exact HR348.out)) hb),ak (Kd.C_below (by repeat (first | (with_reducible exact HR355.out) | (with_reducible refine Kd.C_alloc ?_ _) | (with_reducible refine Kd.C_drewN ?_ _) | (with_reducible refine Kd.C_drew ?_) | exact HR355.out)) hb),kh HB hb⟩
     clear HO_327001 HO_327002 HO_327004 HO341 BK310 BK311 BK312 BK326 HR348 HR355 HB hb ho128
     obtain ⟨HO_327001,HO_327002,HO_327004,HO341,HO344,BK310,BK311,BK312,BK326,HR348,HR355,HB⟩:=n_
     refine hK.out _ _ ⟨(blk_cell BK326.out 0).trans rfl,(blk_cell BK326.out 1).trans rfl,(blk_cell BK326.out 2).trans rfl,(blk_cell BK326.out 3).trans rfl,(blk_cell BK326.out 4).trans rfl⟩ (fun hHeld=>?_)
     clear hK K
     refine norm_ (a':=?_) ?_ ?_
     rotate_left
     ·show Act.put _ (some 125) _ = _
      simp only [Act.put,List.setIfInBounds_toArray,List.set_cons_zero,List.set_cons_succ,i64_w,i32_w]
      rfl
     refine one_ (i:=5) (N:=some 130) #[true,true,true,true,true,true,true,true,true,true,true,false,false,false] rfl rfl (one_of HT_.out (by kernel_rfl)) (by decide) (fun K hK=>?_)
     refine Kd.R_append_rows_step k127 (w0:=w) w.heap.size (by rfl) (.tmp 125) (.tmp 129) 49 127 (.agg #[(.int .i64 0),(.int .i64 0),(.int .i64 0),(.int .i64 0),(.int .i64 0),(.int .i64 0)]) 48 rfl Try.underlying49 info127 rfl (by decide) (by omega) v343 y342 y345 _ _ _ (fun k_=>some k_ ≠ (.slice (some ad338) x327002_2.length co118 : Value).ownBlock) (fun _=>False) (by first | rfl | exact ev_ e125) (by first | rfl | exact ev_ e129) ?aO ?aR (fun _ _ h=>h) (fun _ h=>h.elim) ?aF ?aB ?aS ?aL ?_
     (case aR=>repeat (first | exact (by repeat (first | (with_reducible exact HR348.out) | (with_reducible refine Kd.C_alloc ?_ _) | (with_reducible refine Kd.C_drewN ?_ _) | (with_reducible refine Kd.C_drew ?_) | exact HR348.out)) | (with_reducible refine Kd.C_alloc ?_ _) | (with_reducible refine Kd.C_drewN ?_ _) | (with_reducible refine Kd.C_drew ?_)))
     (case aB=>exact (rb4 GE310.out GE311.out GE312.out GE326.out HB.out))
     (case aF=>exact (fun k_ hk=>Kd.fresh' (Kd.R_lt (rr HO_327002.out)) k_ hk))
     (case aO=>exact (rr (Kd.R_mono HO344.out (fun _ hk=>hk.2))))
     (case aS=>exact (below_size (rb4 GE310.out GE311.out GE312.out GE326.out HB.out)))
     (case aL=>have:=LMc105.out;omega)
     intro v350 w129 ho hb hg hat
     rw [← Ny349.out] at ho
     have n_ : _∧_∧_∧_∧_∧_∧_∧_∧_∧_∧_∧_:=⟨ak (Kd.R_over' (rr HO_327001.out) (Kd.R_typed (rr HO344.out)) (by decide) hg),ak (Kd.R_after (ok:=(fun _=>True)) (rr HO_327002.out) hg hat),ak (Kd.R_over' (rr HO_327004.out) (Kd.R_typed (rr HO344.out)) (by decide) hg),kg BK310 HO344 hg,kg BK311 HO344 hg,kg BK312 HO344 hg,kg BK326 HO344 hg,ak (Kd.R_over' (rr HO341.out) (Kd.R_typed (rr HO344.out)) (by decide) hg),ak (hb),ak ((show Kd.C k127 w129 (some ad338) y345.length y345 from by rw [Ny345.out];exact Kd.C_take (m:=(t336 : Int).toNat) ((Kd.R_reads' (Kd.R_after (ok:=(fun _=>True)) (rr HO_327002.out) hg hat)).2.2) KL125.out)),ak ((show Kd.C k127 w129 A126 y352.length y352 from by rw [Ny352.out,KA126.out];exact Kd.C_drop (m:=((ji106) : Int).toNat) (c:=co118) ((Kd.R_reads' (Kd.R_after (ok:=(fun _=>True)) (rr HO_327002.out) hg hat)).2.2) KL126.out ((Kd.R_reads' (Kd.R_after (ok:=(fun _=>True)) (rr HO_327002.out) hg hat)).2.1))),ak (ho)⟩
     clear HO_327001 HO_327002 HO_327004 BK310 BK311 BK312 BK326 HO341 HB HR348 HR355 HO344 ho hb hg hat
     obtain ⟨HO_327001,HO_327002,HO_327004,BK310,BK311,BK312,BK326,HO341,HB,HR348,HR355,HO351⟩:=n_
     refine hK.out _ _ ⟨(blk_cell BK326.out 0).trans rfl,(blk_cell BK326.out 1).trans rfl,(blk_cell BK326.out 2).trans rfl,(blk_cell BK326.out 3).trans rfl,(blk_cell BK326.out 4).trans rfl⟩ (fun hHeld=>?_)
     clear hK K
     refine norm_ (a':=?_) ?_ ?_
     rotate_left
     ·show Act.put _ (some 130) _ = _
      simp only [Act.put,List.setIfInBounds_toArray,List.set_cons_zero,List.set_cons_succ,i64_w,i32_w]
      rfl
     refine one_ (i:=11) (N:=some 136) #[true,true,true,true,true,true,true,true,true,true,true,true,false,false] rfl rfl (one_of HT_.out (by kernel_rfl)) (by decide) (fun K hK=>?_)
     refine Kd.R_append_rows_step k127 (w0:=w) w.heap.size (by rfl) (.tmp 130) (.tmp 135) 49 127 (.agg #[(.int .i64 0),(.int .i64 0),(.int .i64 0),(.int .i64 0),(.int .i64 0),(.int .i64 0)]) 48 rfl Try.underlying49 info127 rfl (by decide) (by omega) v350 y349 y352 _ _ _ (fun k_=>some k_ ≠ (.slice (some ad338) x327002_2.length co118 : Value).ownBlock) (fun _=>False) (by first | rfl | exact ev_ e130) (by first | rfl | exact ev_ e135) ?aO ?aR (fun _ _ h=>h) (fun _ h=>h.elim) ?aF ?aB ?aS ?aL ?_
     (case aR=>repeat (first | exact (by repeat (first | (with_reducible exact HR355.out) | (with_reducible refine Kd.C_alloc ?_ _) | (with_reducible refine Kd.C_drewN ?_ _) | (with_reducible refine Kd.C_drew ?_) | exact HR355.out)) | (with_reducible refine Kd.C_alloc ?_ _) | (with_reducible refine Kd.C_drewN ?_ _) | (with_reducible refine Kd.C_drew ?_)))
     (case aB=>exact (rb4 GE310.out GE311.out GE312.out GE326.out HB.out))
     (case aF=>exact (fun k_ hk=>Kd.fresh' (Kd.R_lt (rr HO_327002.out)) k_ hk))
     (case aO=>exact (rr HO351.out))
     (case aS=>exact (below_size (rb4 GE310.out GE311.out GE312.out GE326.out HB.out)))
     (case aL=>have:=LMc109.out;omega)
     intro v357 w130 ho hb hg hat
     rw [← Ny356.out] at ho
     have n_ : _∧_∧_∧_∧_∧_∧_∧_∧_∧_∧_∧_:=⟨ak (Kd.R_over' (rr HO_327001.out) (Kd.R_typed (rr HO351.out)) (by decide) hg),ak (Kd.R_after (ok:=(fun _=>True)) (rr HO_327002.out) hg hat),ak (Kd.R_over' (rr HO_327004.out) (Kd.R_typed (rr HO351.out)) (by decide) hg),kg BK310 HO351 hg,kg BK311 HO351 hg,kg BK312 HO351 hg,kg BK326 HO351 hg,ak (Kd.R_over' (rr HO341.out) (Kd.R_typed (rr HO351.out)) (by decide) hg),ak (hb),ak ((show Kd.C k127 w130 (some ad338) y345.length y345 from by rw [Ny345.out];exact Kd.C_take (m:=(t336 : Int).toNat) ((Kd.R_reads' (Kd.R_after (ok:=(fun _=>True)) (rr HO_327002.out) hg hat)).2.2) KL125.out)),ak ((show Kd.C k127 w130 A126 y352.length y352 from by rw [Ny352.out,KA126.out];exact Kd.C_drop (m:=((ji106) : Int).toNat) (c:=co118) ((Kd.R_reads' (Kd.R_after (ok:=(fun _=>True)) (rr HO_327002.out) hg hat)).2.2) KL126.out ((Kd.R_reads' (Kd.R_after (ok:=(fun _=>True)) (rr HO_327002.out) hg hat)).2.1))),ak (ho)⟩
     clear HO_327001 HO_327002 HO_327004 BK310 BK311 BK312 BK326 HO341 HB HR348 HR355 HO351 ho hb hg hat
     obtain ⟨HO_327001,HO_327002,HO_327004,BK310,BK311,BK312,BK326,HO341,HB,HR348,HR355,HO358⟩:=n_
     obtain ⟨Ao131,co131,eo131⟩:=Kd.R_slice HO358.out
     (first | subst eo131 | (injection eo131 with f1_ f2_ f3_;have f4_:=f1_.symm;have f5_:=f3_.symm;clear f1_ f2_ f3_;subst f4_;subst f5_))
     refine hK.out _ _ ⟨(blk_cell BK326.out 0).trans rfl,(blk_cell BK326.out 1).trans rfl,(blk_cell BK326.out 2).trans rfl,(blk_cell BK326.out 3).trans rfl,(blk_cell BK326.out 4).trans rfl⟩ (fun hHeld=>?_)
     clear hK K
     refine norm_ (a':=?_) ?_ ?_
     rotate_left
     ·show Act.put _ (some 136) _ = _
      simp only [Act.put,List.setIfInBounds_toArray,List.set_cons_zero,List.set_cons_succ,i64_w,i32_w]
      rfl
     refine pure_ (i:=12) (N:=some 137) (v:=?_) (a':=?_) #[true,true,true,true,true,true,true,true,true,true,true,true,true,false] rfl rfl (any_of HT_.out (by kernel_rfl)) (fun _ _ _ h=>h) (Or.inl ⟨by rfl,?_⟩) ?_ ?_
     rotate_left
     ·intro w'
      go_simp
      with_reducible rfl
     rotate_left
     ·simp only [Act.put,List.setIfInBounds_toArray,List.set_cons_zero,List.set_cons_succ,i64_w,i32_w]
      rfl
     refine last_ (i:=13) (N:=none) #[true,true,true,true,true,true,true,true,true,true,true,true,true,true] rfl rfl (one_of HT_.out (by kernel_rfl)) (by decide) (fun K hK=>?_)
     have hs132 : w130.cell? ⟨gb326,2,none⟩ = some (.slice (some ad338) x327002_2.length co118):=(blk_cell BK326.out 2).trans rfl
     have hfs132:=blk_frozen BK326.out 2
     have hns132_0:=NB310_326.out
     have hns132_1:=NB311_326.out
     have hns132_2:=NB312_326.out
     have hms132_0:=NB326_310.out
     have hms132_1:=NB326_311.out
     have hms132_2:=NB326_312.out
     refine skip_ (w1:=?_) (by rfl) rfl ?_ ?_
     rotate_left
     ·go_simp
      rfl
     refine hK.out _ _ ?_
     clear hK K
     refine done_ (done_of HT_.out (by kernel_rfl)) ?_
     try go_wp2
     go_roundg k2
     case measure=>have:=HJ3.out;have:=HK2.out;omega
     case rel=>exact ⟨(wrap64 (x7_2 + 1)),(y339),(y356),(.slice Ao121 y339.length co121),(.slice Ao131 y356.length co131),(by first | rfl | (simp;done) | (simp [*];done)),H',⟨by have:=HJ3.out;have:=HK2.out;omega⟩,⟨rfa HO341⟩,⟨rfa HO_327001⟩,⟨rfa HO358⟩,⟨rfa HO_327004⟩,⟨by (with_reducible repeat (first | refine blk_drewN ?_ _ | refine blk_drew ?_ | refine blk_alloc ?_ _));refine blk_far ?_ NB310_326.out _;(with_reducible repeat (first | refine blk_drewN ?_ _ | refine blk_drew ?_ | refine blk_alloc ?_ _));exact BK310.out⟩,⟨by (with_reducible repeat (first | refine blk_drewN ?_ _ | refine blk_drew ?_ | refine blk_alloc ?_ _));refine blk_far ?_ NB311_326.out _;(with_reducible repeat (first | refine blk_drewN ?_ _ | refine blk_drew ?_ | refine blk_alloc ?_ _));exact BK311.out⟩,⟨by (with_reducible repeat (first | refine blk_drewN ?_ _ | refine blk_drew ?_ | refine blk_alloc ?_ _));refine blk_far ?_ NB312_326.out _;(with_reducible repeat (first | refine blk_drewN ?_ _ | refine blk_drew ?_ | refine blk_alloc ?_ _));exact BK312.out⟩,⟨by (with_reducible repeat (first | refine blk_drewN ?_ _ | refine blk_drew ?_ | refine blk_alloc ?_ _));refine blk_put (cs:=#[.slice Ao121 y339.length co121,.slice Ao18 t316.length co18,.slice (some ad338) x327002_2.length co118,.int .i64 t322,.slice Ao20 t323.length co20]) ?_ 2 _ rfl;(with_reducible repeat (first | refine blk_drewN ?_ _ | refine blk_drew ?_ | refine blk_alloc ?_ _));exact BK326.out⟩,⟨rbx HB⟩⟩

end Go.Proofs.Ythdeicbkimlnhaa.PFnExactKept
