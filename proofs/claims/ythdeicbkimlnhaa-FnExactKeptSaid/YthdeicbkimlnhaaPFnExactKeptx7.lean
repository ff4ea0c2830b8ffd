import Derived.Test.YthdeicbkimlnhaaPFnExactKeptx0
import Derived.Test.YthdeicbkimlnhaaPFnExactKeptx5
import Derived.Test.YthdeicbkimlnhaaPFnExactKeptx6
namespace Go.Proofs.Ythdeicbkimlnhaa.PFnExactKept
open Go.RowKit Go.Proofs.YthdeicbkimlnhaaW.PrintWords Go.Proofs.YthdeicbkimlnhaaW.PrintLast Go.Proofs.YthdeicbkimlnhaaW.PrintMore Go.Proofs.YthdeicbkimlnhaaH
attribute [local go_sem] max2_int min2_int max_two min_two max_three min_three max_four min_four   -- for this text's walks alone
set_option linter.unusedVariables false
set_option linter.unusedSimpArgs false
set_option maxRecDepth 100000

/-! ### impl_Kept: function 29 -/
mutual
def impl_Kept.j0 : Nat→Bool→List (S134)→List Int→List (S127)→Int→List Int→Int→Int→Int→Int→Int→Int→Int→List (S134)→List Int→List (S127)→Int→List Int→Option ((List (S134)) × List Int × (List (S127)) × Int × List Int × Bool)
 | 0,_,_,_,_,_,_,_,_,_,_,_,_,_,_,_,_,_,_=>none
 | k + 1,x33,x226000,x226001,x226002,x226003,x226004,x227000,x227001,x227002,x227003,x227004,x227005,x227006,x242000,x242001,x242002,x242003,x242004=>if x33 = true then (some (x242000,x242001,x242002,x242003,x242004,false)) else (if 0 ≤ x227001 then (if x227001 < (x226001.length : Int) then (if x227002 = (rd x226001 x227001) then (if x242000.length < 2932031007402 then (if x227001 < (x242001.length : Int) then (impl_Kept.l0 k x227000 x227001 x227002 x227003 x227004 x227005 x227006 (x242000 ++ [(⟨x227001,x227002,(⟨x227003,x227004,x227005,x227006⟩ : S34)⟩ : S134)]) (x242001.set (x227001 : Int).toNat (wrap64 ((rd x242001 x227001) + 1))) x242002 x242003 x242004) else (none)) else (none)) else (if x227002 > (rd x226001 x227001) then (if x227002 ≤ (wrap64 ((rd x226001 x227001) + 3)) then ((impl_earlyAt.f k x226002 x227001 x227002).bind fun t244=>(if t244 < 0 then (if (x226002.length : Int) < 3 then (if x242002.length < 2932031007402 then (some (x242000,x242001,(x242002 ++ [(⟨x227001,x227002,(⟨x227003,x227004,x227005,x227006⟩ : S34)⟩ : S127)]),x242003,x242004,false)) else (none)) else (some (x242000,x242001,x242002,x242003,x242004,false))) else (some (x242000,x242001,x242002,x242003,x242004,false)))) else (some (x242000,x242001,x242002,x242003,x242004,false))) else (some (x242000,x242001,x242002,x242003,x242004,false)))) else (none)) else (none))
def impl_Kept.l0 : Nat→Int→Int→Int→Int→Int→Int→Int→List (S134)→List Int→List (S127)→Int→List Int→Option ((List (S134)) × List Int × (List (S127)) × Int × List Int × Bool)
 | 0,_,_,_,_,_,_,_,_,_,_,_,_=>none
 | k + 1,x227000,x227001,x227002,x227003,x227004,x227005,x227006,x242000,x242001,x242002,x242003,x242004=>if (x242000.length : Int) < 200 then (if 0 ≤ x227001 then (if x227001 < (x242001.length : Int) then ((impl_earlyAt.f k x242002 x227001 (rd x242001 x227001)).bind fun t254=>(if t254 < 0 then (some (x242000,x242001,x242002,x242003,x242004,true)) else (if 0 ≤ t254 then (if t254 < (x242002.length : Int) then (if t254 ≤ (x242002.length : Int) then (if 0 ≤ (wrap64 (t254 + 1)) then (if (wrap64 (t254 + 1)) ≤ (x242002.length : Int) then (if x242000.length < 2932031007402 then (impl_Kept.l0 k x227000 x227001 x227002 x227003 x227004 x227005 x227006 (x242000 ++ [(⟨(rd_T127 x242002 t254).f0,(rd_T127 x242002 t254).f1,(⟨(rd_T127 x242002 t254).f2.f0,(rd_T127 x242002 t254).f2.f1,(rd_T127 x242002 t254).f2.f2,(rd_T127 x242002 t254).f2.f3⟩ : S34)⟩ : S134)]) (x242001.set (x227001 : Int).toNat (wrap64 ((rd x242001 x227001) + 1))) (x242002.eraseIdx (t254 : Int).toNat) x242003 x242004) else (none)) else (none)) else (none)) else (none)) else (none)) else (none)))) else (none)) else (none)) else (some (x242000,x242001,x242002,x242003,x242004,true))
end
def impl_Kept.f (k : Nat) (l0_0 : List (S134)) (l0_1 : List Int) (l0_2 : List (S127)) (a0_3 : Int) (l0_4 : List Int) (a1_0 : Int) (a1_1 : Int) (a1_2 : Int) (a1_3 : Int) (a1_4 : Int) (a1_5 : Int) (a1_6 : Int) : Option ((List (S134)) × List Int × (List (S127)) × Int × List Int × Bool):=(impl_copyKeeper.f l0_0 l0_1 l0_2 a0_3 l0_4).bind fun bt228=>((impl_FrameOk.f k a1_0 a1_1 a1_2 a1_3 a1_4 a1_5 a1_6).bind fun t242=>(if t242 = true then (if a1_0 = 1 then (if a1_1 ≥ (l0_1.length : Int) then (impl_Kept.j0 k true l0_0 l0_1 l0_2 a0_3 l0_4 a1_0 a1_1 a1_2 a1_3 a1_4 a1_5 a1_6 bt228.1 bt228.2.1 bt228.2.2.1 bt228.2.2.2.1 bt228.2.2.2.2) else (impl_Kept.j0 k (decide ((l0_0.length : Int) ≥ 200)) l0_0 l0_1 l0_2 a0_3 l0_4 a1_0 a1_1 a1_2 a1_3 a1_4 a1_5 a1_6 bt228.1 bt228.2.1 bt228.2.2.1 bt228.2.2.2.1 bt228.2.2.2.2)) else (impl_Kept.j0 k true l0_0 l0_1 l0_2 a0_3 l0_4 a1_0 a1_1 a1_2 a1_3 a1_4 a1_5 a1_6 bt228.1 bt228.2.1 bt228.2.2.1 bt228.2.2.2.1 bt228.2.2.2.2)) else (impl_Kept.j0 k true l0_0 l0_1 l0_2 a0_3 l0_4 a1_0 a1_1 a1_2 a1_3 a1_4 a1_5 a1_6 bt228.1 bt228.2.1 bt228.2.2.1 bt228.2.2.2.1 bt228.2.2.2.2)))
theorem impl_Kept.mono_l : ∀ k,(∀ y0 y1 y2 y3 y4 y5 y6 y7 y8 y9 y10 y11 y12 y13 y14 y15 y16 y17,LeO (impl_Kept.j0 k y0 y1 y2 y3 y4 y5 y6 y7 y8 y9 y10 y11 y12 y13 y14 y15 y16 y17) (impl_Kept.j0 (k + 1) y0 y1 y2 y3 y4 y5 y6 y7 y8 y9 y10 y11 y12 y13 y14 y15 y16 y17))∧(∀ y0 y1 y2 y3 y4 y5 y6 y7 y8 y9 y10 y11,LeO (impl_Kept.l0 k y0 y1 y2 y3 y4 y5 y6 y7 y8 y9 y10 y11) (impl_Kept.l0 (k + 1) y0 y1 y2 y3 y4 y5 y6 y7 y8 y9 y10 y11))
 | 0=>⟨fun _ _ _ _ _ _ _ _ _ _ _ _ _ _ _ _ _ _ r h=>by simp [impl_Kept.j0] at h,fun _ _ _ _ _ _ _ _ _ _ _ _ r h=>by simp [impl_Kept.l0] at h⟩
 | k + 1=>by
  obtain ⟨ih0,ih1⟩:=impl_Kept.mono_l k
  refine ⟨?_,?_⟩
  ·intro y0 y1 y2 y3 y4 y5 y6 y7 y8 y9 y10 y11 y12 y13 y14 y15 y16 y17
   unfold impl_Kept.j0
   repeat' first
   | (with_reducible apply ih0)
   | (with_reducible apply ih1)
   | (with_reducible apply impl_FrameOk.mono)
   | (with_reducible apply impl_earlyAt.mono)
   | (with_reducible exact LeO.refl _)
   | (with_reducible exact LeO.none _)
   | (with_reducible refine LeO.ite ?_ ?_)
   | (with_reducible refine LeO.bind ?_ (fun _=>?_))
   | apply ih0
   | apply ih1
   | apply impl_FrameOk.mono
   | apply impl_earlyAt.mono
   | exact LeO.none _
   | refine LeO.ite ?_ ?_
   | refine LeO.bind ?_ (fun _=>?_)
  ·intro y0 y1 y2 y3 y4 y5 y6 y7 y8 y9 y10 y11
   unfold impl_Kept.l0
   repeat' first
   | (with_reducible apply ih0)
   | (with_reducible apply ih1)
   | (with_reducible apply impl_FrameOk.mono)
   | (with_reducible apply impl_earlyAt.mono)
   | (with_reducible exact LeO.refl _)
   | (with_reducible exact LeO.none _)
   | (with_reducible refine LeO.ite ?_ ?_)
   | (with_reducible refine LeO.bind ?_ (fun _=>?_))
   | apply ih0
   | apply ih1
   | apply impl_FrameOk.mono
   | apply impl_earlyAt.mono
   | exact LeO.none _
   | refine LeO.ite ?_ ?_
   | refine LeO.bind ?_ (fun _=>?_)
theorem impl_Kept.mono : ∀ a0 a1 a2 a3 a4 a5 a6 a7 a8 a9 a10 a11 k,LeO (impl_Kept.f k a0 a1 a2 a3 a4 a5 a6 a7 a8 a9 a10 a11) (impl_Kept.f (k + 1) a0 a1 a2 a3 a4 a5 a6 a7 a8 a9 a10 a11):=by
 intro a0 a1 a2 a3 a4 a5 a6 a7 a8 a9 a10 a11 k
 obtain ⟨ih0,ih1⟩:=impl_Kept.mono_l k
 unfold impl_Kept.f
 repeat' first
   | (with_reducible apply ih0)
   | (with_reducible apply ih1)
   | (with_reducible apply impl_FrameOk.mono)
   | (with_reducible apply impl_earlyAt.mono)
   | (with_reducible exact LeO.refl _)
   | (with_reducible exact LeO.none _)
   | (with_reducible refine LeO.ite ?_ ?_)
   | (with_reducible refine LeO.bind ?_ (fun _=>?_))
   | apply ih0
   | apply ih1
   | apply impl_FrameOk.mono
   | apply impl_earlyAt.mono
   | exact LeO.none _
   | refine LeO.ite ?_ ?_
   | refine LeO.bind ?_ (fun _=>?_)
def impl_Kept.T12 : Bool × List (List Nat × List Nat):=(true,[([],[]),([0],[0]),([],[]),([2],[2]),([],[]),([4],[4]),([],[]),([6],[6]),([5,7],[5,7]),([8],[8]),([1,3,9],[1,3,9]),([10,10,0,1,2,3,4,5,6,7,8,9,10],[10])])
def impl_Kept.B12 : List Nat:=[0,1,0,4,0,16,0,64,240,496,1023,2047]
theorem impl_Kept.tab12 : rtab .any (opsOf Try.f29 12) = impl_Kept.T12:=by kernel_rfl
theorem impl_Kept.bits12 : waitsOk impl_Kept.T12.2 impl_Kept.B12 = true:=by kernel_rfl
def impl_Kept.T15 : Bool × List (List Nat × List Nat):=(true,[([],[]),([0],[0]),([],[]),([1,2],[1,2]),([],[]),([4],[4]),([],[]),([6],[6]),([5,7],[5,7]),([3,8],[3,8]),([0,1,2,3,4,5,6,7,8,9],[]),([10,9,9,0,1,2,3,4,5,6,7,8,9],[9,10])])
def impl_Kept.B15 : List Nat:=[0,1,0,7,0,16,0,64,240,511,1023,2047]
theorem impl_Kept.tab15 : rtab .any (opsOf Try.f29 15) = impl_Kept.T15:=by kernel_rfl
theorem impl_Kept.bits15 : waitsOk impl_Kept.T15.2 impl_Kept.B15 = true:=by kernel_rfl
set_option maxHeartbeats 8000000 in
theorem impl_Kept.calls (k : Nat) (A0_0 : Option Addr) (c0_0 : Nat) (l0_0 : List (S134)) (A0_1 : Option Addr) (c0_1 : Nat) (l0_1 : List Int) (A0_2 : Option Addr) (c0_2 : Nat) (l0_2 : List (S127)) (a0_3 : Int) (A0_4 : Option Addr) (c0_4 : Nat) (l0_4 : List Int) (a1_0 : Int) (a1_1 : Int) (a1_2 : Int) (a1_3 : Int) (a1_4 : Int) (a1_5 : Int) (a1_6 : Int) (r1 : List (S134)) (r2 : List Int) (r3 : List (S127)) (r4 : Int) (r5 : List Int) (r6 : Bool) (w : World) (hr0_0 : Kd.C k134 w A0_0 l0_0.length l0_0) (hc0_0 : l0_0.length ≤ c0_0) (hr0_1 : Kd.C (Kd.int .i64) w A0_1 l0_1.length l0_1) (hc0_1 : l0_1.length ≤ c0_1) (hr0_2 : Kd.C k127 w A0_2 l0_2.length l0_2) (hc0_2 : l0_2.length ≤ c0_2) (hr0_4 : Kd.C (Kd.int .i64) w A0_4 l0_4.length l0_4) (hc0_4 : l0_4.length ≤ c0_4) (h : impl_Kept.f k l0_0 l0_1 l0_2 a0_3 l0_4 a1_0 a1_1 a1_2 a1_3 a1_4 a1_5 a1_6 = some (r1,r2,r3,r4,r5,r6)) :
  Calls Try.prog 29 #[.agg #[.slice A0_0 l0_0.length c0_0,.slice A0_1 l0_1.length c0_1,.slice A0_2 l0_2.length c0_2,.int .i64 a0_3,.slice A0_4 l0_4.length c0_4],.agg #[.int .i64 a1_0,.int .i64 a1_1,.int .i64 a1_2,.int .i64 a1_3,.int .i64 a1_4,.int .i64 a1_5,.int .i64 a1_6]] w fun e w'=>∃ v0_ v1_ v2_ v4_ : Value,e = .returned (.tuple #[.agg #[v0_,v1_,v2_,.int .i64 r4,v4_],.bool r6])∧Kd.R k134 134 w' w.heap.size (fun _=>True) v0_ r1∧Kd.R (Kd.int .i64) 3 w' w.heap.size (fun k_=>some k_ ≠ (v4_ : Value).ownBlock) v1_ r2∧Kd.R k127 127 w' w.heap.size (fun _=>True) v2_ r3∧Kd.R (Kd.int .i64) 3 w' w.heap.size (fun k_=>some k_ ≠ (v1_ : Value).ownBlock) v4_ r5∧Below w.heap.size w w':=by
 have hu51:=Try.underlying51
 have hu36:=Try.underlying36
 have hu34:=Try.underlying34
 have hu127:=Try.underlying127
 have hu134:=Try.underlying134
 have HR0_0:=ak hr0_0
 have HC0_0:=ak hc0_0
 clear hr0_0 hc0_0
 have HR0_1:=ak hr0_1
 have HC0_1:=ak hc0_1
 clear hr0_1 hc0_1
 have HR0_2:=ak hr0_2
 have HC0_2:=ak hc0_2
 clear hr0_2 hc0_2
 have HR0_4:=ak hr0_4
 have HC0_4:=ak hc0_4
 clear hr0_4 hc0_4
 have HB:=ak (Below.refl w.heap.size w)
 have H:=h
 clear h
 unfold impl_Kept.f at H
 replace H:=Option.bind_eq_some_iff.mp H
 obtain ⟨⟨t228,t231,t234,t237,t238⟩,A30,H⟩:=H
 try dsimp only at H
 have A3:=ak A30
 clear A30
 have HC4:=ak H
 clear H
 go_enter Try.func29,Try.ntmps29
 go_upto_region 2 with (first | ((with_reducible refine gate_dst (N:=2) rfl ?_);(try (refine gate_guard (by rfl) ?_;dsimp only));refine box_event ?hg (N:=2) ?hd (cs:=#[.slice A0_0 l0_0.length c0_0,.slice A0_1 l0_1.length c0_1,.slice A0_2 l0_2.length c0_2,.int .i64 a0_3,.slice A0_4 l0_4.length c0_4]) (t:=51) ?hr ?_;(case hd=>rfl);(case hg=>rfl);(case hr=>first | (go_simp;done) | (go_simp;rfl));intro gb225 hg w5 hbox hb;have n_ : _∧_∧_∧_:=⟨kh HB hb,ak (hbox),kz HB hg,kz HB hg⟩;clear HB hb hbox hg;obtain ⟨HB,BK225,GW225,GE225⟩:=n_) | ((with_reducible refine gate_dst (N:=3) rfl ?_);(try (refine gate_guard (by rfl) ?_;dsimp only));refine box_event ?hg (N:=3) ?hd (cs:=#[.int .i64 a1_0,.int .i64 a1_1,.int .i64 a1_2,.int .i64 a1_3,.int .i64 a1_4,.int .i64 a1_5,.int .i64 a1_6]) (t:=36) ?hr ?_;(case hd=>rfl);(case hg=>rfl);(case hr=>first | (go_simp;done) | (go_simp;rfl));intro gb226 hg w6 hbox hb;have n_ : _∧_∧_∧_∧_∧_∧_:=⟨kb BK225 hb,kh HB hb,ak (hbox),kz HB hg,kz HB hg,nl BK225 hg,ng BK225 hg⟩;clear BK225 HB hb hbox hg;obtain ⟨BK225,HB,BK226,GW226,GE226,NB225_226,NB226_225⟩:=n_) | ((with_reducible refine gate_dst (N:=4) rfl ?_);(try (refine gate_guard (by rfl) ?_;dsimp only));refine box_event ?hg (N:=4) ?hd (cs:=#[.slice none 0 0,.slice none 0 0,.slice none 0 0,.int .i64 0,.slice none 0 0]) (t:=51) ?hr ?_;(case hd=>rfl);(case hg=>rfl);(case hr=>first | (go_simp;done) | (go_simp;rfl));intro gb227 hg w7 hbox hb;have n_ : _∧_∧_∧_∧_∧_∧_∧_∧_∧_:=⟨kb BK225 hb,kb BK226 hb,kh HB hb,ak (hbox),kz HB hg,kz HB hg,nl BK225 hg,ng BK225 hg,nl BK226 hg,ng BK226 hg⟩;clear BK225 BK226 HB hb hbox hg;obtain ⟨BK225,BK226,HB,BK227,GW227,GE227,NB225_227,NB227_225,NB226_227,NB227_226⟩:=n_;have hnb8:=NB225_226.out;have hnc8:=NB226_225.out;have hnb9:=NB225_227.out;have hnc9:=NB227_225.out;have hcz10_0 : w7.cell? ⟨gb225,0,none⟩ = some (.slice A0_0 l0_0.length c0_0):=(blk_cell BK225.out 0).trans rfl;have hcz10_1 : w7.cell? ⟨gb225,1,none⟩ = some (.slice A0_1 l0_1.length c0_1):=(blk_cell BK225.out 1).trans rfl;have hcz10_2 : w7.cell? ⟨gb225,2,none⟩ = some (.slice A0_2 l0_2.length c0_2):=(blk_cell BK225.out 2).trans rfl;have hcz10_3 : w7.cell? ⟨gb225,3,none⟩ = some (.int .i64 a0_3):=(blk_cell BK225.out 3).trans rfl;have hcz10_4 : w7.cell? ⟨gb225,4,none⟩ = some (.slice A0_4 l0_4.length c0_4):=(blk_cell BK225.out 4).trans rfl;have hfz10_0:=blk_frozen BK225.out 0;have hfz10_1:=blk_frozen BK225.out 1;have hfz10_2:=blk_frozen BK225.out 2;have hfz10_3:=blk_frozen BK225.out 3;have hfz10_4:=blk_frozen BK225.out 4) | ((with_reducible refine gc (f:=110) rfl ?_);refine gl (some 11) Try.func110 #[.agg #[.slice A0_0 l0_0.length c0_0,.slice A0_1 l0_1.length c0_1,.slice A0_2 l0_2.length c0_2,.int .i64 a0_3,.slice A0_4 l0_4.length c0_4]] ?_;(with_reducible refine (impl_copyKeeper.calls _ _ l0_0 _ _ l0_1 _ _ l0_2 a0_3 _ _ l0_4 t228 t231 t234 t237 t238 _ ?side1 ?side2 ?side3 ?side4 ?side5 ?side6 ?side7 ?side8 A3.out).mono ?_);(case side1=>exact rc (Kd.C_below HR0_0.out HB.out));(case side2=>exact HC0_0.out);(case side3=>exact rc (Kd.C_below HR0_1.out HB.out));(case side4=>exact HC0_1.out);(case side5=>exact rc (Kd.C_below HR0_2.out HB.out));(case side6=>exact HC0_2.out);(case side7=>exact rc (Kd.C_below HR0_4.out HB.out));(case side8=>exact HC0_4.out);rintro e w11 ⟨v229,v232,v235,v239,rfl,ho0,ho1,ho2,ho3,hb⟩;refine ⟨_,rfl,?_⟩;have n_ : _∧_∧_∧_∧_∧_∧_∧_:=⟨kl ho0 HB,kl ho1 HB,kl ho2 HB,kl ho3 HB,kb BK225 hb,kb BK226 hb,kb BK227 hb,kh HB hb⟩;clear BK225 BK226 BK227 HB;obtain ⟨HO230,HO233,HO236,HO240,BK225,BK226,BK227,HB⟩:=n_;(try clear ho2);(try clear ho3)) | ((with_reducible refine gate_dst (N:=6) rfl ?_);(try (refine gate_guard (by rfl) ?_;dsimp only));refine box_event ?hg (N:=6) ?hd (cs:=#[.slice none 0 0,.slice none 0 0,.slice none 0 0,.int .i64 0,.slice none 0 0]) (t:=51) ?hr ?_;(case hd=>rfl);(case hg=>rfl);(case hr=>first | (go_simp;done) | (go_simp;rfl));intro gb241 hg w12 hbox hb;have n_ : _∧_∧_∧_∧_∧_∧_∧_∧_∧_∧_∧_∧_∧_∧_∧_∧_:=⟨ka HO230 hb,ka HO233 hb,ka HO236 hb,ka HO240 hb,kb BK225 hb,kb BK226 hb,kb BK227 hb,kh HB hb,ak (hbox),kz HB hg,kz HB hg,nl BK225 hg,ng BK225 hg,nl BK226 hg,ng BK226 hg,nl BK227 hg,ng BK227 hg⟩;clear HO230 HO233 HO236 HO240 BK225 BK226 BK227 HB hb hbox hg;obtain ⟨HO230,HO233,HO236,HO240,BK225,BK226,BK227,HB,BK241,GW241,GE241,NB225_241,NB241_225,NB226_241,NB241_226,NB227_241,NB241_227⟩:=n_;obtain ⟨Ao13,co13,eo13⟩:=Kd.R_slice HO230.out;subst eo13;have hnb14:=NB241_225.out;have hnc14:=NB225_241.out;have hnb15:=NB241_226.out;have hnc15:=NB226_241.out;have hnb16:=NB241_227.out;have hnc16:=NB227_241.out;have hcz17_0 : w12.cell? ⟨gb241,0,none⟩ = some (.slice none 0 0):=(blk_cell BK241.out 0).trans rfl;have hcz17_1 : w12.cell? ⟨gb241,1,none⟩ = some (.slice none 0 0):=(blk_cell BK241.out 1).trans rfl;have hcz17_2 : w12.cell? ⟨gb241,2,none⟩ = some (.slice none 0 0):=(blk_cell BK241.out 2).trans rfl;have hcz17_3 : w12.cell? ⟨gb241,3,none⟩ = some (.int .i64 0):=(blk_cell BK241.out 3).trans rfl;have hcz17_4 : w12.cell? ⟨gb241,4,none⟩ = some (.slice none 0 0):=(blk_cell BK241.out 4).trans rfl;have hfz17_0:=blk_frozen BK241.out 0;have hfz17_1:=blk_frozen BK241.out 1;have hfz17_2:=blk_frozen BK241.out 2;have hfz17_3:=blk_frozen BK241.out 3;have hfz17_4:=blk_frozen BK241.out 4;obtain ⟨Ao18,co18,eo18⟩:=Kd.R_slice HO233.out;subst eo18;obtain ⟨Ao19,co19,eo19⟩:=Kd.R_slice HO236.out;subst eo19;obtain ⟨Ao20,co20,eo20⟩:=Kd.R_slice HO240.out;subst eo20))
 (try simp only [Act.put,List.setIfInBounds_toArray,List.set_cons_zero,List.set_cons_succ])
 go_cut [33] (fun v33 wc=>∃ (kq : Nat) (x33_3 : Bool),v33 = .bool x33_3∧Aside0 (impl_Kept.j0 kq x33_3 l0_0 l0_1 l0_2 a0_3 l0_4 a1_0 a1_1 a1_2 a1_3 a1_4 a1_5 a1_6 t228 t231 t234 t237 t238 = some (r1,r2,r3,r4,r5,r6))∧Aside0 (kq ≤ k)∧Aside0 (Kd.R k134 134 wc w.heap.size (fun _=>True) (.slice Ao13 t228.length co13) t228)∧Aside0 (Kd.R (Kd.int .i64) 3 wc w.heap.size (fun k_=>some k_ ≠ ((.slice Ao20 t238.length co20) : Value).ownBlock) (.slice Ao18 t231.length co18) t231)∧Aside0 (Kd.R k127 127 wc w.heap.size (fun _=>True) (.slice Ao19 t234.length co19) t234)∧Aside0 (Kd.R (Kd.int .i64) 3 wc w.heap.size (fun k_=>some k_ ≠ ((.slice Ao18 t231.length co18) : Value).ownBlock) (.slice Ao20 t238.length co20) t238)∧Aside0 (wc.heap[gb225]? = some (.cells #[(.slice A0_0 l0_0.length c0_0),(.slice A0_1 l0_1.length c0_1),(.slice A0_2 l0_2.length c0_2),.int .i64 a0_3,(.slice A0_4 l0_4.length c0_4)] 51 (0,0)))∧Aside0 (wc.heap[gb226]? = some (.cells #[.int .i64 a1_0,.int .i64 a1_1,.int .i64 a1_2,.int .i64 a1_3,.int .i64 a1_4,.int .i64 a1_5,.int .i64 a1_6] 36 (0,0)))∧Aside0 (wc.heap[gb227]? = some (.cells #[(.slice none 0 0),(.slice none 0 0),(.slice none 0 0),.int .i64 0,(.slice none 0 0)] 51 (0,0)))∧Aside0 (wc.heap[gb241]? = some (.cells #[(.slice Ao13 t228.length co13),(.slice Ao18 t231.length co18),(.slice Ao19 t234.length co19),.int .i64 t237,(.slice Ao20 t238.length co20)] 51 (0,0)))∧Aside0 (Below w.heap.size w wc))
 case first =>
  have H:=HC4.out
  clear HC4
  replace H:=Option.bind_eq_some_iff.mp H
  obtain ⟨t242,A210,H⟩:=H
  try dsimp only at H
  have A21:=ak A210
  clear A210
  by_cases c22 : t242 = true
  rotate_left
  ·replace c22:=Bool.eq_false_iff.mpr c22
   subst c22
   rw [if_neg (show ¬ (false = true) by decide)] at H
   have H':=ak H
   clear H
   have hnb49:=NB226_225.out
   have hnc49:=NB225_226.out
   have hnb50:=NB226_227.out
   have hnc50:=NB227_226.out
   have hnb51:=NB226_241.out
   have hnc51:=NB241_226.out
   have hz52:=bc7 BK226
   go_wp2_with (first | ((with_reducible refine gc (f:=45) rfl ?_);refine gl (some 13) Try.func45 #[.agg #[.int .i64 a1_0,.int .i64 a1_1,.int .i64 a1_2,.int .i64 a1_3,.int .i64 a1_4,.int .i64 a1_5,.int .i64 a1_6]] ?_;(with_reducible refine (impl_FrameOk.calls k a1_0 a1_1 a1_2 a1_3 a1_4 a1_5 a1_6 false _ A21.out).mono ?_);rintro e w53 ⟨rfl,hb⟩;refine ⟨_,rfl,?_⟩;have n_ : _∧_∧_∧_∧_∧_∧_∧_∧_:=⟨kaf HO230 hb,kaf HO233 hb,kaf HO236 hb,kaf HO240 hb,kp #[.slice A0_0 l0_0.length c0_0,.slice A0_1 l0_1.length c0_1,.slice A0_2 l0_2.length c0_2,.int .i64 a0_3,.slice A0_4 l0_4.length c0_4] BK225 hb,kp #[.int .i64 a1_0,.int .i64 a1_1,.int .i64 a1_2,.int .i64 a1_3,.int .i64 a1_4,.int .i64 a1_5,.int .i64 a1_6] BK226 hb,kp #[.slice none 0 0,.slice none 0 0,.slice none 0 0,.int .i64 0,.slice none 0 0] BK227 hb,kp #[.slice Ao13 t228.length co13,.slice Ao18 t231.length co18,.slice Ao19 t234.length co19,.int .i64 t237,.slice Ao20 t238.length co20] BK241 hb,kh HB hb⟩;clear HO230 HO233 HO236 HO240 BK225 BK226 BK227 BK241 HB;obtain ⟨HO230,HO233,HO236,HO240,BK225,BK226,BK227,BK241,HB⟩:=n_;(try clear hb);(try clear hb2);(try clear hk);(try clear hi)))
   go_meet
   case rel=>exact ⟨_,(true),(by first | rfl | (simp;done) | (simp [*];done)),H',⟨by first | omega | exact Nat.le_refl _⟩,⟨rr HO230.out⟩,⟨rr HO233.out⟩,⟨rr HO236.out⟩,⟨rr HO240.out⟩,⟨rk BK225.out⟩,⟨rk BK226.out⟩,⟨rk BK227.out⟩,⟨rk BK241.out⟩,⟨rbx HB⟩⟩
  subst c22
  have H1 : (if a1_0 = 1 then (if a1_1 ≥ (l0_1.length : Int) then (impl_Kept.j0 k true l0_0 l0_1 l0_2 a0_3 l0_4 a1_0 a1_1 a1_2 a1_3 a1_4 a1_5 a1_6 t228 t231 t234 t237 t238) else (impl_Kept.j0 k (decide ((l0_0.length : Int) ≥ 200)) l0_0 l0_1 l0_2 a0_3 l0_4 a1_0 a1_1 a1_2 a1_3 a1_4 a1_5 a1_6 t228 t231 t234 t237 t238)) else (impl_Kept.j0 k true l0_0 l0_1 l0_2 a0_3 l0_4 a1_0 a1_1 a1_2 a1_3 a1_4 a1_5 a1_6 t228 t231 t234 t237 t238)) = some (r1,r2,r3,r4,r5,r6):=by rw [if_pos rfl] at H;exact H
  clear H
  have H:=H1
  clear H1
  by_cases c23 : a1_0 = 1
  rotate_left
  ·rw [if_neg c23] at H
   have c23b0 : (a1_0 == 1) = false:=beq_eq_false_iff_ne.mpr c23
   have c23b1 : (a1_0 != 1) = true:=bne_iff_ne.mpr c23
   (first | rw [c23b0] | (simp only [i64_w,i32_w];rw [c23b0]) | skip)
   have H':=ak H
   clear H
   have hnb43:=NB226_225.out
   have hnc43:=NB225_226.out
   have hnb44:=NB226_227.out
   have hnc44:=NB227_226.out
   have hnb45:=NB226_241.out
   have hnc45:=NB241_226.out
   have hz46:=bc7 BK226
   go_wp2_with (first | ((with_reducible refine gc (f:=45) rfl ?_);refine gl (some 13) Try.func45 #[.agg #[.int .i64 a1_0,.int .i64 a1_1,.int .i64 a1_2,.int .i64 a1_3,.int .i64 a1_4,.int .i64 a1_5,.int .i64 a1_6]] ?_;(with_reducible refine (impl_FrameOk.calls k a1_0 a1_1 a1_2 a1_3 a1_4 a1_5 a1_6 true _ A21.out).mono ?_);rintro e w47 ⟨rfl,hb⟩;refine ⟨_,rfl,?_⟩;have n_ : _∧_∧_∧_∧_∧_∧_∧_∧_:=⟨kaf HO230 hb,kaf HO233 hb,kaf HO236 hb,kaf HO240 hb,kp #[.slice A0_0 l0_0.length c0_0,.slice A0_1 l0_1.length c0_1,.slice A0_2 l0_2.length c0_2,.int .i64 a0_3,.slice A0_4 l0_4.length c0_4] BK225 hb,kp #[.int .i64 a1_0,.int .i64 a1_1,.int .i64 a1_2,.int .i64 a1_3,.int .i64 a1_4,.int .i64 a1_5,.int .i64 a1_6] BK226 hb,kp #[.slice none 0 0,.slice none 0 0,.slice none 0 0,.int .i64 0,.slice none 0 0] BK227 hb,kp #[.slice Ao13 t228.length co13,.slice Ao18 t231.length co18,.slice Ao19 t234.length co19,.int .i64 t237,.slice Ao20 t238.length co20] BK241 hb,kh HB hb⟩;clear HO230 HO233 HO236 HO240 BK225 BK226 BK227 BK241 HB;obtain ⟨HO230,HO233,HO236,HO240,BK225,BK226,BK227,BK241,HB⟩:=n_;(try clear hb);(try clear hb2);(try clear hk);(try clear hi);have hcz48_0 : w47.cell? ⟨gb226,0,none⟩ = some (.int .i64 a1_0):=(blk_cell BK226.out 0).trans rfl;have hcz48_1 : w47.cell? ⟨gb226,1,none⟩ = some (.int .i64 a1_1):=(blk_cell BK226.out 1).trans rfl;have hcz48_2 : w47.cell? ⟨gb226,2,none⟩ = some (.int .i64 a1_2):=(blk_cell BK226.out 2).trans rfl;have hcz48_3 : w47.cell? ⟨gb226,3,none⟩ = some (.int .i64 a1_3):=(blk_cell BK226.out 3).trans rfl;have hcz48_4 : w47.cell? ⟨gb226,4,none⟩ = some (.int .i64 a1_4):=(blk_cell BK226.out 4).trans rfl;have hcz48_5 : w47.cell? ⟨gb226,5,none⟩ = some (.int .i64 a1_5):=(blk_cell BK226.out 5).trans rfl;have hcz48_6 : w47.cell? ⟨gb226,6,none⟩ = some (.int .i64 a1_6):=(blk_cell BK226.out 6).trans rfl;have hfz48_0:=blk_frozen BK226.out 0;have hfz48_1:=blk_frozen BK226.out 1;have hfz48_2:=blk_frozen BK226.out 2;have hfz48_3:=blk_frozen BK226.out 3;have hfz48_4:=blk_frozen BK226.out 4;have hfz48_5:=blk_frozen BK226.out 5;have hfz48_6:=blk_frozen BK226.out 6))
   go_meet
   case rel=>exact ⟨_,(true),(by first | rfl | (simp;done) | (simp [*];done)),H',⟨by first | omega | exact Nat.le_refl _⟩,⟨rr HO230.out⟩,⟨rr HO233.out⟩,⟨rr HO236.out⟩,⟨rr HO240.out⟩,⟨rk BK225.out⟩,⟨rk BK226.out⟩,⟨rk BK227.out⟩,⟨rk BK241.out⟩,⟨rbx HB⟩⟩
  rw [if_pos c23] at H
  have c23b0 : (a1_0 == 1) = true:=beq_iff_eq.mpr c23
  have c23b1 : (a1_0 != 1) = false:=bne_eq_false_iff_eq.mpr c23
  clear c23
  (first | rw [c23b0] | (simp only [i64_w,i32_w];rw [c23b0]) | skip)
  by_cases c24 : a1_1 ≥ (l0_1.length : Int)
  ·rw [if_pos c24] at H
   have c24b0 : decide ((l0_1.length : Int) ≤ a1_1) = true:=decide_eq_true c24
   clear c24
   have H':=ak H
   clear H
   have hnb25:=NB226_225.out
   have hnc25:=NB225_226.out
   have hnb26:=NB226_227.out
   have hnc26:=NB227_226.out
   have hnb27:=NB226_241.out
   have hnc27:=NB241_226.out
   have hz28:=bc7 BK226
   go_wp2_with (first | ((with_reducible refine gc (f:=45) rfl ?_);refine gl (some 13) Try.func45 #[.agg #[.int .i64 a1_0,.int .i64 a1_1,.int .i64 a1_2,.int .i64 a1_3,.int .i64 a1_4,.int .i64 a1_5,.int .i64 a1_6]] ?_;(with_reducible refine (impl_FrameOk.calls k a1_0 a1_1 a1_2 a1_3 a1_4 a1_5 a1_6 true _ A21.out).mono ?_);rintro e w29 ⟨rfl,hb⟩;refine ⟨_,rfl,?_⟩;have n_ : _∧_∧_∧_∧_∧_∧_∧_∧_:=⟨kaf HO230 hb,kaf HO233 hb,kaf HO236 hb,kaf HO240 hb,kp #[.slice A0_0 l0_0.length c0_0,.slice A0_1 l0_1.length c0_1,.slice A0_2 l0_2.length c0_2,.int .i64 a0_3,.slice A0_4 l0_4.length c0_4] BK225 hb,kp #[.int .i64 a1_0,.int .i64 a1_1,.int .i64 a1_2,.int .i64 a1_3,.int .i64 a1_4,.int .i64 a1_5,.int .i64 a1_6] BK226 hb,kp #[.slice none 0 0,.slice none 0 0,.slice none 0 0,.int .i64 0,.slice none 0 0] BK227 hb,kp #[.slice Ao13 t228.length co13,.slice Ao18 t231.length co18,.slice Ao19 t234.length co19,.int .i64 t237,.slice Ao20 t238.length co20] BK241 hb,kh HB hb⟩;clear HO230 HO233 HO236 HO240 BK225 BK226 BK227 BK241 HB;obtain ⟨HO230,HO233,HO236,HO240,BK225,BK226,BK227,BK241,HB⟩:=n_;(try clear hb);(try clear hb2);(try clear hk);(try clear hi);have hcz30_0 : w29.cell? ⟨gb226,0,none⟩ = some (.int .i64 a1_0):=(blk_cell BK226.out 0).trans rfl;have hcz30_1 : w29.cell? ⟨gb226,1,none⟩ = some (.int .i64 a1_1):=(blk_cell BK226.out 1).trans rfl;have hcz30_2 : w29.cell? ⟨gb226,2,none⟩ = some (.int .i64 a1_2):=(blk_cell BK226.out 2).trans rfl;have hcz30_3 : w29.cell? ⟨gb226,3,none⟩ = some (.int .i64 a1_3):=(blk_cell BK226.out 3).trans rfl;have hcz30_4 : w29.cell? ⟨gb226,4,none⟩ = some (.int .i64 a1_4):=(blk_cell BK226.out 4).trans rfl;have hcz30_5 : w29.cell? ⟨gb226,5,none⟩ = some (.int .i64 a1_5):=(blk_cell BK226.out 5).trans rfl;have hcz30_6 : w29.cell? ⟨gb226,6,none⟩ = some (.int .i64 a1_6):=(blk_cell BK226.out 6).trans rfl;have hfz30_0:=blk_frozen BK226.out 0;have hfz30_1:=blk_frozen BK226.out 1;have hfz30_2:=blk_frozen BK226.out 2;have hfz30_3:=blk_frozen BK226.out 3;have hfz30_4:=blk_frozen BK226.out 4;have hfz30_5:=blk_frozen BK226.out 5;have hfz30_6:=blk_frozen BK226.out 6;have hnb31:=NB225_227.out;have hnc31:=NB227_225.out;have hnb32:=NB225_241.out;have hnc32:=NB241_225.out;have hcz33_0 : w29.cell? ⟨gb225,0,none⟩ = some (.slice A0_0 l0_0.length c0_0):=(blk_cell BK225.out 0).trans rfl;have hcz33_1 : w29.cell? ⟨gb225,1,none⟩ = some (.slice A0_1 l0_1.length c0_1):=(blk_cell BK225.out 1).trans rfl;have hcz33_2 : w29.cell? ⟨gb225,2,none⟩ = some (.slice A0_2 l0_2.length c0_2):=(blk_cell BK225.out 2).trans rfl;have hcz33_3 : w29.cell? ⟨gb225,3,none⟩ = some (.int .i64 a0_3):=(blk_cell BK225.out 3).trans rfl;have hcz33_4 : w29.cell? ⟨gb225,4,none⟩ = some (.slice A0_4 l0_4.length c0_4):=(blk_cell BK225.out 4).trans rfl;have hfz33_0:=blk_frozen BK225.out 0;have hfz33_1:=blk_frozen BK225.out 1;have hfz33_2:=blk_frozen BK225.out 2;have hfz33_3:=blk_frozen BK225.out 3;have hfz33_4:=blk_frozen BK225.out 4))
   go_meet
   case rel=>exact ⟨_,(true),(by first | rfl | (simp;done) | (simp [*];done)),H',⟨by first | omega | exact Nat.le_refl _⟩,⟨rr HO230.out⟩,⟨rr HO233.out⟩,⟨rr HO236.out⟩,⟨rr HO240.out⟩,⟨rk BK225.out⟩,⟨rk BK226.out⟩,⟨rk BK227.out⟩,⟨rk BK241.out⟩,⟨rbx HB⟩⟩
  rw [if_neg c24] at H
  have c24b0 : decide ((l0_1.length : Int) ≤ a1_1) = false:=decide_eq_false c24
  clear c24
  have H':=ak H
  clear H
  have hnb34:=NB226_225.out
  have hnc34:=NB225_226.out
  have hnb35:=NB226_227.out
  have hnc35:=NB227_226.out
  have hnb36:=NB226_241.out
  have hnc36:=NB241_226.out
  have hz37:=bc7 BK226
  go_wp2_with (first | ((with_reducible refine gc (f:=45) rfl ?_);refine gl (some 13) Try.func45 #[.agg #[.int .i64 a1_0,.int .i64 a1_1,.int .i64 a1_2,.int .i64 a1_3,.int .i64 a1_4,.int .i64 a1_5,.int .i64 a1_6]] ?_;(with_reducible refine (impl_FrameOk.calls k a1_0 a1_1 a1_2 a1_3 a1_4 a1_5 a1_6 true _ A21.out).mono ?_);rintro e w38 ⟨rfl,hb⟩;refine ⟨_,rfl,?_⟩;have n_ : _∧_∧_∧_∧_∧_∧_∧_∧_:=⟨kaf HO230 hb,kaf HO233 hb,kaf HO236 hb,kaf HO240 hb,kp #[.slice A0_0 l0_0.length c0_0,.slice A0_1 l0_1.length c0_1,.slice A0_2 l0_2.length c0_2,.int .i64 a0_3,.slice A0_4 l0_4.length c0_4] BK225 hb,kp #[.int .i64 a1_0,.int .i64 a1_1,.int .i64 a1_2,.int .i64 a1_3,.int .i64 a1_4,.int .i64 a1_5,.int .i64 a1_6] BK226 hb,kp #[.slice none 0 0,.slice none 0 0,.slice none 0 0,.int .i64 0,.slice none 0 0] BK227 hb,kp #[.slice Ao13 t228.length co13,.slice Ao18 t231.length co18,.slice Ao19 t234.length co19,.int .i64 t237,.slice Ao20 t238.length co20] BK241 hb,kh HB hb⟩;clear HO230 HO233 HO236 HO240 BK225 BK226 BK227 BK241 HB;obtain ⟨HO230,HO233,HO236,HO240,BK225,BK226,BK227,BK241,HB⟩:=n_;(try clear hb);(try clear hb2);(try clear hk);(try clear hi);have hcz39_0 : w38.cell? ⟨gb226,0,none⟩ = some (.int .i64 a1_0):=(blk_cell BK226.out 0).trans rfl;have hcz39_1 : w38.cell? ⟨gb226,1,none⟩ = some (.int .i64 a1_1):=(blk_cell BK226.out 1).trans rfl;have hcz39_2 : w38.cell? ⟨gb226,2,none⟩ = some (.int .i64 a1_2):=(blk_cell BK226.out 2).trans rfl;have hcz39_3 : w38.cell? ⟨gb226,3,none⟩ = some (.int .i64 a1_3):=(blk_cell BK226.out 3).trans rfl;have hcz39_4 : w38.cell? ⟨gb226,4,none⟩ = some (.int .i64 a1_4):=(blk_cell BK226.out 4).trans rfl;have hcz39_5 : w38.cell? ⟨gb226,5,none⟩ = some (.int .i64 a1_5):=(blk_cell BK226.out 5).trans rfl;have hcz39_6 : w38.cell? ⟨gb226,6,none⟩ = some (.int .i64 a1_6):=(blk_cell BK226.out 6).trans rfl;have hfz39_0:=blk_frozen BK226.out 0;have hfz39_1:=blk_frozen BK226.out 1;have hfz39_2:=blk_frozen BK226.out 2;have hfz39_3:=blk_frozen BK226.out 3;have hfz39_4:=blk_frozen BK226.out 4;have hfz39_5:=blk_frozen BK226.out 5;have hfz39_6:=blk_frozen BK226.out 6;have hnb40:=NB225_227.out;have hnc40:=NB227_225.out;have hnb41:=NB225_241.out;have hnc41:=NB241_225.out;have hcz42_0 : w38.cell? ⟨gb225,0,none⟩ = some (.slice A0_0 l0_0.length c0_0):=(blk_cell BK225.out 0).trans rfl;have hcz42_1 : w38.cell? ⟨gb225,1,none⟩ = some (.slice A0_1 l0_1.length c0_1):=(blk_cell BK225.out 1).trans rfl;have hcz42_2 : w38.cell? ⟨gb225,2,none⟩ = some (.slice A0_2 l0_2.length c0_2):=(blk_cell BK225.out 2).trans rfl;have hcz42_3 : w38.cell? ⟨gb225,3,none⟩ = some (.int .i64 a0_3):=(blk_cell BK225.out 3).trans rfl;have hcz42_4 : w38.cell? ⟨gb225,4,none⟩ = some (.slice A0_4 l0_4.length c0_4):=(blk_cell BK225.out 4).trans rfl;have hfz42_0:=blk_frozen BK225.out 0;have hfz42_1:=blk_frozen BK225.out 1;have hfz42_2:=blk_frozen BK225.out 2;have hfz42_3:=blk_frozen BK225.out 3;have hfz42_4:=blk_frozen BK225.out 4))
  go_meet
  case rel=>exact ⟨_,(decide ((l0_0.length : Int) ≥ 200)),(by first | rfl | (simp;done) | (simp [*];done)),H',⟨by first | omega | exact Nat.le_refl _⟩,⟨rr HO230.out⟩,⟨rr HO233.out⟩,⟨rr HO236.out⟩,⟨rr HO240.out⟩,⟨rk BK225.out⟩,⟨rk BK226.out⟩,⟨rk BK227.out⟩,⟨rk BK241.out⟩,⟨rbx HB⟩⟩
 case rest =>
  clear HC4
  try clear c1
  try clear c2
  try clear p2
  try clear c3
  try clear c4
  try clear c5
  try clear c8
  try clear c9
  try clear c11
  try clear c14
  try clear c15
  try clear c16
  try clear c22
  try clear c23
  try clear c23b0
  try clear c23b1
  try clear c24
  try clear c24b0
  try clear c25
  try clear c26
  try clear c27
  try clear c29
  try clear c31
  try clear c32
  try clear c34
  try clear c35
  try clear c36
  try clear c40
  try clear c41
  try clear c43
  try clear c44
  try clear c45
  try clear c49
  try clear c50
  try clear c51
  try clear hcz10_0
  try clear hcz10_1
  try clear hcz10_2
  try clear hcz10_3
  try clear hcz10_4
  try clear hcz17_0
  try clear hcz17_1
  try clear hcz17_2
  try clear hcz17_3
  try clear hcz17_4
  try clear hz28
  try clear hcz30_0
  try clear hcz30_1
  try clear hcz30_2
  try clear hcz30_3
  try clear hcz30_4
  try clear hcz30_5
  try clear hcz30_6
  try clear hcz33_0
  try clear hcz33_1
  try clear hcz33_2
  try clear hcz33_3
  try clear hcz33_4
  try clear hz37
  try clear hcz39_0
  try clear hcz39_1
  try clear hcz39_2
  try clear hcz39_3
  try clear hcz39_4
  try clear hcz39_5
  try clear hcz39_6
  try clear hcz42_0
  try clear hcz42_1
  try clear hcz42_2
  try clear hcz42_3
  try clear hcz42_4
  try clear hz46
  try clear hcz48_0
  try clear hcz48_1
  try clear hcz48_2
  try clear hcz48_3
  try clear hcz48_4
  try clear hcz48_5
  try clear hcz48_6
  try clear hz52
  try clear hfz10_0
  try clear hfz10_1
  try clear hfz10_2
  try clear hfz10_3
  try clear hfz10_4
  try clear hfz17_0
  try clear hfz17_1
  try clear hfz17_2
  try clear hfz17_3
  try clear hfz17_4
  try clear hfz30_0
  try clear hfz30_1
  try clear hfz30_2
  try clear hfz30_3
  try clear hfz30_4
  try clear hfz30_5
  try clear hfz30_6
  try clear hfz33_0
  try clear hfz33_1
  try clear hfz33_2
  try clear hfz33_3
  try clear hfz33_4
  try clear hfz39_0
  try clear hfz39_1
  try clear hfz39_2
  try clear hfz39_3
  try clear hfz39_4
  try clear hfz39_5
  try clear hfz39_6
  try clear hfz42_0
  try clear hfz42_1
  try clear hfz42_2
  try clear hfz42_3
  try clear hfz42_4
  try clear hfz48_0
  try clear hfz48_1
  try clear hfz48_2
  try clear hfz48_3
  try clear hfz48_4
  try clear hfz48_5
  try clear hfz48_6
  obtain ⟨kq,x33_3,rfl,HA,HJ3,HO_242000,HO_242001,HO_242002,HO_242004,BK225,BK226,BK227,BK241,HB⟩:=hcut
  cases kq with
  | zero=>exact absurd HA.out (by simp [impl_Kept.j0])
  | succ kj3 =>
   have H:=HA.out
   clear HA
   simp only [impl_Kept.j0] at H
   by_cases c54 : x33_3 = true
   ·subst c54
    have H1 : (some (t228,t231,t234,t237,t238,false)) = some (r1,r2,r3,r4,r5,r6):=by rw [if_pos rfl] at H;exact H
    clear H
    have H:=H1
    clear H1
    simp only [Option.some.injEq,Prod.mk.injEq] at H
    obtain ⟨rfl,rfl,rfl,rfl,rfl,rfl⟩:=H
    have hnb55:=NB241_225.out
    have hnc55:=NB225_241.out
    have hnb56:=NB241_226.out
    have hnc56:=NB226_241.out
    have hnb57:=NB241_227.out
    have hnc57:=NB227_241.out
    have hz58:=bc5 BK241
    have hnb59:=NB227_225.out
    have hnc59:=NB225_227.out
    have hnb60:=NB227_226.out
    have hnc60:=NB226_227.out
    have hz61:=bc5 BK227
    go_wp2
    refine bodyPost_ret (results_ct rfl _ _ gb227 51 #[.slice Ao13 t228.length co13,.slice Ao18 t231.length co18,.slice Ao19 t234.length co19,.int .i64 t237,.slice Ao20 t238.length co20] (0,0) _ rfl (kq BK227) Try.underlying51 rfl (by kernel_rfl)) rfl ?_
    exact ⟨_,_,_,_,by first | rfl | (simp [errW_none,errW_some] <;> rfl) | (simp [*,errW_none,errW_some] <;> rfl),rfa HO_242000,rfa HO_242001,rfa HO_242002,rfa HO_242004,rbx HB⟩
   replace c54:=Bool.eq_false_iff.mpr c54
   subst c54
   rw [if_neg (show ¬ (false = true) by decide)] at H
   by_cases c62 : 0 ≤ a1_1
   rotate_left
   ·rw [if_neg c62] at H
    exact absurd H (by simp)
   rw [if_pos c62] at H
   have c62b0 : decide (0 ≤ a1_1) = true:=decide_eq_true c62
   clear c62
   by_cases c63 : a1_1 < (l0_1.length : Int)
   rotate_left
   ·rw [if_neg c63] at H
    exact absurd H (by simp)
   rw [if_pos c63] at H
   have c63b0 : decide (a1_1 < (l0_1.length : Int)) = true:=decide_eq_true c63
   clear c63
   by_cases c64 : a1_2 = (rd l0_1 a1_1)
   rotate_left
   ·rw [if_neg c64] at H
    have c64b0 : (a1_2 == (rd l0_1 a1_1)) = false:=beq_eq_false_iff_ne.mpr c64
    have c64b1 : (a1_2 != (rd l0_1 a1_1)) = true:=bne_iff_ne.mpr c64
    by_cases c159 : a1_2 > (rd l0_1 a1_1)
    rotate_left
    ·rw [if_neg c159] at H
     have c159b0 : decide ((rd l0_1 a1_1) < a1_2) = false:=decide_eq_false c159
     clear c159
     simp only [Option.some.injEq,Prod.mk.injEq] at H
     obtain ⟨rfl,rfl,rfl,rfl,rfl,rfl⟩:=H
     have hnb214:=NB225_226.out
     have hnc214:=NB226_225.out
     have hnb215:=NB225_227.out
     have hnc215:=NB227_225.out
     have hnb216:=NB225_241.out
     have hnc216:=NB241_225.out
     have hz217:=bc5 BK225
     have hnb218:=NB226_227.out
     have hnc218:=NB227_226.out
     have hnb219:=NB226_241.out
     have hnc219:=NB241_226.out
     have hz220:=bc7 BK226
     have p243 : 0 ≤ (a1_1 : Int):=of_decide_eq_true (by first | (with_reducible assumption) | assumption)
     have q243 : a1_1 < (l0_1.length : Int):=of_decide_eq_true (by first | (with_reducible assumption) | assumption)
     obtain ⟨ad243,e243,hx243_0⟩:=Kd.at_int HR0_1.out a1_1 p243 q243
     cases e243
     replace hx243_0:=(HB.out.cell (World.block_lt_of_cell? w _ hx243_0)).trans hx243_0
     replace p243:=eq_true p243
     replace q243:=eq_true q243
     have hnb221:=NB241_227.out
     have hnc221:=NB227_241.out
     have hz222:=bc5 BK241
     have hz223:=bc5 BK227
     go_wp2
     refine bodyPost_ret (results_ct rfl _ _ gb227 51 #[.slice Ao13 t228.length co13,.slice Ao18 t231.length co18,.slice Ao19 t234.length co19,.int .i64 t237,.slice Ao20 t238.length co20] (0,0) _ rfl (kq BK227) Try.underlying51 rfl (by kernel_rfl)) rfl ?_
     exact ⟨_,_,_,_,by first | rfl | (simp [errW_none,errW_some] <;> rfl) | (simp [*,errW_none,errW_some] <;> rfl),rfa HO_242000,rfa HO_242001,rfa HO_242002,rfa HO_242004,rbx HB⟩
    rw [if_pos c159] at H
    have c159b0 : decide ((rd l0_1 a1_1) < a1_2) = true:=decide_eq_true c159
    clear c159
    by_cases c160 : a1_2 ≤ (wrap64 ((rd l0_1 a1_1) + 3))
    rotate_left
    ·rw [if_neg c160] at H
     have c160b0 : decide (a1_2 ≤ (wrap64 ((rd l0_1 a1_1) + 3))) = false:=decide_eq_false c160
     clear c160
     simp only [Option.some.injEq,Prod.mk.injEq] at H
     obtain ⟨rfl,rfl,rfl,rfl,rfl,rfl⟩:=H
     have hnb204:=NB225_226.out
     have hnc204:=NB226_225.out
     have hnb205:=NB225_227.out
     have hnc205:=NB227_225.out
     have hnb206:=NB225_241.out
     have hnc206:=NB241_225.out
     have hz207:=bc5 BK225
     have hnb208:=NB226_227.out
     have hnc208:=NB227_226.out
     have hnb209:=NB226_241.out
     have hnc209:=NB241_226.out
     have hz210:=bc7 BK226
     have p243 : 0 ≤ (a1_1 : Int):=of_decide_eq_true (by first | (with_reducible assumption) | assumption)
     have q243 : a1_1 < (l0_1.length : Int):=of_decide_eq_true (by first | (with_reducible assumption) | assumption)
     obtain ⟨ad243,e243,hx243_0⟩:=Kd.at_int HR0_1.out a1_1 p243 q243
     cases e243
     replace hx243_0:=(HB.out.cell (World.block_lt_of_cell? w _ hx243_0)).trans hx243_0
     replace p243:=eq_true p243
     replace q243:=eq_true q243
     have hnb211:=NB241_227.out
     have hnc211:=NB227_241.out
     have hz212:=bc5 BK241
     have hz213:=bc5 BK227
     go_wp2
     refine bodyPost_ret (results_ct rfl _ _ gb227 51 #[.slice Ao13 t228.length co13,.slice Ao18 t231.length co18,.slice Ao19 t234.length co19,.int .i64 t237,.slice Ao20 t238.length co20] (0,0) _ rfl (kq BK227) Try.underlying51 rfl (by kernel_rfl)) rfl ?_
     exact ⟨_,_,_,_,by first | rfl | (simp [errW_none,errW_some] <;> rfl) | (simp [*,errW_none,errW_some] <;> rfl),rfa HO_242000,rfa HO_242001,rfa HO_242002,rfa HO_242004,rbx HB⟩
    rw [if_pos c160] at H
    have c160b0 : decide (a1_2 ≤ (wrap64 ((rd l0_1 a1_1) + 3))) = true:=decide_eq_true c160
    clear c160
    replace H:=Option.bind_eq_some_iff.mp H
    obtain ⟨t244,A1610,H⟩:=H
    try dsimp only at H
    have A161:=ak A1610
    clear A1610
    by_cases c162 : t244 < 0
    rotate_left
    ·rw [if_neg c162] at H
     have c162b0 : decide (t244 < 0) = false:=decide_eq_false c162
     clear c162
     simp only [Option.some.injEq,Prod.mk.injEq] at H
     obtain ⟨rfl,rfl,rfl,rfl,rfl,rfl⟩:=H
     have hnb193:=NB225_226.out
     have hnc193:=NB226_225.out
     have hnb194:=NB225_227.out
     have hnc194:=NB227_225.out
     have hnb195:=NB225_241.out
     have hnc195:=NB241_225.out
     have hz196:=bc5 BK225
     have hnb197:=NB226_227.out
     have hnc197:=NB227_226.out
     have hnb198:=NB226_241.out
     have hnc198:=NB241_226.out
     have hz199:=bc7 BK226
     have p243 : 0 ≤ (a1_1 : Int):=of_decide_eq_true (by first | (with_reducible assumption) | assumption)
     have q243 : a1_1 < (l0_1.length : Int):=of_decide_eq_true (by first | (with_reducible assumption) | assumption)
     obtain ⟨ad243,e243,hx243_0⟩:=Kd.at_int HR0_1.out a1_1 p243 q243
     cases e243
     replace hx243_0:=(HB.out.cell (World.block_lt_of_cell? w _ hx243_0)).trans hx243_0
     replace p243:=eq_true p243
     replace q243:=eq_true q243
     go_wp2_with (first | (go_at_call 108;(with_reducible refine (impl_earlyAt.calls kj3 _ _ l0_2 a1_1 a1_2 t244 _ ?side1 ?side2 A161.out).mono ?_);(case side1=>exact rc (Kd.C_below HR0_2.out HB.out));(case side2=>exact HC0_2.out);rintro e w200 ⟨rfl,hb⟩;have n_ : _∧_∧_∧_∧_∧_∧_∧_∧_:=⟨ka HO_242000 hb,ka HO_242001 hb,ka HO_242002 hb,ka HO_242004 hb,kb BK225 hb,kb BK226 hb,kb BK227 hb,kb BK241 hb,kh HB hb⟩;clear HO_242000 HO_242001 HO_242002 HO_242004 BK225 BK226 BK227 BK241 HB;obtain ⟨HO_242000,HO_242001,HO_242002,HO_242004,BK225,BK226,BK227,BK241,HB⟩:=n_;(try clear hb);(try clear hb2);(try clear hk);(try clear hi);have hnb201:=NB241_227.out;have hnc201:=NB227_241.out;have hcz202_0 : w200.cell? ⟨gb241,0,none⟩ = some (.slice Ao13 t228.length co13):=(blk_cell BK241.out 0).trans rfl;have hcz202_1 : w200.cell? ⟨gb241,1,none⟩ = some (.slice Ao18 t231.length co18):=(blk_cell BK241.out 1).trans rfl;have hcz202_2 : w200.cell? ⟨gb241,2,none⟩ = some (.slice Ao19 t234.length co19):=(blk_cell BK241.out 2).trans rfl;have hcz202_3 : w200.cell? ⟨gb241,3,none⟩ = some (.int .i64 t237):=(blk_cell BK241.out 3).trans rfl;have hcz202_4 : w200.cell? ⟨gb241,4,none⟩ = some (.slice Ao20 t238.length co20):=(blk_cell BK241.out 4).trans rfl;have hfz202_0:=blk_frozen BK241.out 0;have hfz202_1:=blk_frozen BK241.out 1;have hfz202_2:=blk_frozen BK241.out 2;have hfz202_3:=blk_frozen BK241.out 3;have hfz202_4:=blk_frozen BK241.out 4;have hcz203_0 : w200.cell? ⟨gb227,0,none⟩ = some (.slice none 0 0):=(blk_cell BK227.out 0).trans rfl;have hcz203_1 : w200.cell? ⟨gb227,1,none⟩ = some (.slice none 0 0):=(blk_cell BK227.out 1).trans rfl;have hcz203_2 : w200.cell? ⟨gb227,2,none⟩ = some (.slice none 0 0):=(blk_cell BK227.out 2).trans rfl;have hcz203_3 : w200.cell? ⟨gb227,3,none⟩ = some (.int .i64 0):=(blk_cell BK227.out 3).trans rfl;have hcz203_4 : w200.cell? ⟨gb227,4,none⟩ = some (.slice none 0 0):=(blk_cell BK227.out 4).trans rfl;have hfz203_0:=blk_frozen BK227.out 0;have hfz203_1:=blk_frozen BK227.out 1;have hfz203_2:=blk_frozen BK227.out 2;have hfz203_3:=blk_frozen BK227.out 3;have hfz203_4:=blk_frozen BK227.out 4))
     refine bodyPost_ret (results_ct rfl _ _ gb227 51 #[.slice Ao13 t228.length co13,.slice Ao18 t231.length co18,.slice Ao19 t234.length co19,.int .i64 t237,.slice Ao20 t238.length co20] (0,0) _ rfl (kq BK227) Try.underlying51 rfl (by kernel_rfl)) rfl ?_
     exact ⟨_,_,_,_,by first | rfl | (simp [errW_none,errW_some] <;> rfl) | (simp [*,errW_none,errW_some] <;> rfl),rfa HO_242000,rfa HO_242001,rfa HO_242002,rfa HO_242004,rbx HB⟩
    rw [if_pos c162] at H
    have c162b0 : decide (t244 < 0) = true:=decide_eq_true c162
    clear c162
    by_cases c163 : (l0_2.length : Int) < 3
    rotate_left
    ·rw [if_neg c163] at H
     have c163b0 : decide ((l0_2.length : Int) < 3) = false:=decide_eq_false c163
     have c163b1 : decide (l0_2.length < 3) = false:=decide_eq_false (by omega)
     clear c163
     simp only [Option.some.injEq,Prod.mk.injEq] at H
     obtain ⟨rfl,rfl,rfl,rfl,rfl,rfl⟩:=H
     have hnb181:=NB225_226.out
     have hnc181:=NB226_225.out
     have hnb182:=NB225_227.out
     have hnc182:=NB227_225.out
     have hnb183:=NB225_241.out
     have hnc183:=NB241_225.out
     have hz184:=bc5 BK225
     have hnb185:=NB226_227.out
     have hnc185:=NB227_226.out
     have hnb186:=NB226_241.out
     have hnc186:=NB241_226.out
     have hz187:=bc7 BK226
     have p243 : 0 ≤ (a1_1 : Int):=of_decide_eq_true (by first | (with_reducible assumption) | assumption)
     have q243 : a1_1 < (l0_1.length : Int):=of_decide_eq_true (by first | (with_reducible assumption) | assumption)
     obtain ⟨ad243,e243,hx243_0⟩:=Kd.at_int HR0_1.out a1_1 p243 q243
     cases e243
     replace hx243_0:=(HB.out.cell (World.block_lt_of_cell? w _ hx243_0)).trans hx243_0
     replace p243:=eq_true p243
     replace q243:=eq_true q243
     go_wp2_with (first | (go_at_call 108;(with_reducible refine (impl_earlyAt.calls kj3 _ _ l0_2 a1_1 a1_2 t244 _ ?side1 ?side2 A161.out).mono ?_);(case side1=>exact rc (Kd.C_below HR0_2.out HB.out));(case side2=>exact HC0_2.out);rintro e w188 ⟨rfl,hb⟩;have n_ : _∧_∧_∧_∧_∧_∧_∧_∧_:=⟨ka HO_242000 hb,ka HO_242001 hb,ka HO_242002 hb,ka HO_242004 hb,kb BK225 hb,kb BK226 hb,kb BK227 hb,kb BK241 hb,kh HB hb⟩;clear HO_242000 HO_242001 HO_242002 HO_242004 BK225 BK226 BK227 BK241 HB;obtain ⟨HO_242000,HO_242001,HO_242002,HO_242004,BK225,BK226,BK227,BK241,HB⟩:=n_;(try clear hb);(try clear hb2);(try clear hk);(try clear hi);have hcz189_0 : w188.cell? ⟨gb225,0,none⟩ = some (.slice A0_0 l0_0.length c0_0):=(blk_cell BK225.out 0).trans rfl;have hcz189_1 : w188.cell? ⟨gb225,1,none⟩ = some (.slice (some ad243) l0_1.length c0_1):=(blk_cell BK225.out 1).trans rfl;have hcz189_2 : w188.cell? ⟨gb225,2,none⟩ = some (.slice A0_2 l0_2.length c0_2):=(blk_cell BK225.out 2).trans rfl;have hcz189_3 : w188.cell? ⟨gb225,3,none⟩ = some (.int .i64 a0_3):=(blk_cell BK225.out 3).trans rfl;have hcz189_4 : w188.cell? ⟨gb225,4,none⟩ = some (.slice A0_4 l0_4.length c0_4):=(blk_cell BK225.out 4).trans rfl;have hfz189_0:=blk_frozen BK225.out 0;have hfz189_1:=blk_frozen BK225.out 1;have hfz189_2:=blk_frozen BK225.out 2;have hfz189_3:=blk_frozen BK225.out 3;have hfz189_4:=blk_frozen BK225.out 4;have hnb190:=NB241_227.out;have hnc190:=NB227_241.out;have hcz191_0 : w188.cell? ⟨gb241,0,none⟩ = some (.slice Ao13 t228.length co13):=(blk_cell BK241.out 0).trans rfl;have hcz191_1 : w188.cell? ⟨gb241,1,none⟩ = some (.slice Ao18 t231.length co18):=(blk_cell BK241.out 1).trans rfl;have hcz191_2 : w188.cell? ⟨gb241,2,none⟩ = some (.slice Ao19 t234.length co19):=(blk_cell BK241.out 2).trans rfl;have hcz191_3 : w188.cell? ⟨gb241,3,none⟩ = some (.int .i64 t237):=(blk_cell BK241.out 3).trans rfl;have hcz191_4 : w188.cell? ⟨gb241,4,none⟩ = some (.slice Ao20 t238.length co20):=(blk_cell BK241.out 4).trans rfl;have hfz191_0:=blk_frozen BK241.out 0;have hfz191_1:=blk_frozen BK241.out 1;have hfz191_2:=blk_frozen BK241.out 2;have hfz191_3:=blk_frozen BK241.out 3;have hfz191_4:=blk_frozen BK241.out 4;have hcz192_0 : w188.cell? ⟨gb227,0,none⟩ = some (.slice none 0 0):=(blk_cell BK227.out 0).trans rfl;have hcz192_1 : w188.cell? ⟨gb227,1,none⟩ = some (.slice none 0 0):=(blk_cell BK227.out 1).trans rfl;have hcz192_2 : w188.cell? ⟨gb227,2,none⟩ = some (.slice none 0 0):=(blk_cell BK227.out 2).trans rfl;have hcz192_3 : w188.cell? ⟨gb227,3,none⟩ = some (.int .i64 0):=(blk_cell BK227.out 3).trans rfl;have hcz192_4 : w188.cell? ⟨gb227,4,none⟩ = some (.slice none 0 0):=(blk_cell BK227.out 4).trans rfl;have hfz192_0:=blk_frozen BK227.out 0;have hfz192_1:=blk_frozen BK227.out 1;have hfz192_2:=blk_frozen BK227.out 2;have hfz192_3:=blk_frozen BK227.out 3;have hfz192_4:=blk_frozen BK227.out 4))
     refine bodyPost_ret (results_ct rfl _ _ gb227 51 #[.slice Ao13 t228.length co13,.slice Ao18 t231.length co18,.slice Ao19 t234.length co19,.int .i64 t237,.slice Ao20 t238.length co20] (0,0) _ rfl (kq BK227) Try.underlying51 rfl (by kernel_rfl)) rfl ?_
     exact ⟨_,_,_,_,by first | rfl | (simp [errW_none,errW_some] <;> rfl) | (simp [*,errW_none,errW_some] <;> rfl),rfa HO_242000,rfa HO_242001,rfa HO_242002,rfa HO_242004,rbx HB⟩
    rw [if_pos c163] at H
    have c163b0 : decide ((l0_2.length : Int) < 3) = true:=decide_eq_true c163
    have c163b1 : decide (l0_2.length < 3) = true:=decide_eq_true (by omega)
    clear c163
    by_cases c164 : t234.length < 2932031007402
    rotate_left
    ·rw [if_neg c164] at H
     exact absurd H (by simp)
    rw [if_pos c164] at H
    have LMc164:=ak c164
    clear c164
    obtain ⟨y245,hy245⟩ : ∃ y_ : List (S127),y_ = (t234 ++ [(⟨a1_1,a1_2,(⟨a1_3,a1_4,a1_5,a1_6⟩ : S34)⟩ : S127)]):=⟨_,rfl⟩
    replace H : (some (t228,t231,y245,t237,t238,false)) = some (r1,r2,r3,r4,r5,r6):=by first | (rw [hy245];with_reducible exact H) | (have H2_:=(Option.bind_some _ _).symm.trans H;rw [hy245];with_reducible exact H2_) | (have H2_:=(Option.bind_some _ _).symm.trans H;with_reducible exact H2_) | with_reducible exact H | (rw [hy245];exact H) | exact H
    have Ny245:=ak hy245
    clear hy245
    simp only [Option.some.injEq,Prod.mk.injEq] at H
    obtain ⟨rfl,rfl,rfl,rfl,rfl,rfl⟩:=H
    have hnb165:=NB225_226.out
    have hnc165:=NB226_225.out
    have hnb166:=NB225_227.out
    have hnc166:=NB227_225.out
    have hnb167:=NB225_241.out
    have hnc167:=NB241_225.out
    have hz168:=bc5 BK225
    have hnb169:=NB226_227.out
    have hnc169:=NB227_226.out
    have hnb170:=NB226_241.out
    have hnc170:=NB241_226.out
    have hz171:=bc7 BK226
    have p243 : 0 ≤ (a1_1 : Int):=of_decide_eq_true (by first | (with_reducible assumption) | assumption)
    have q243 : a1_1 < (l0_1.length : Int):=of_decide_eq_true (by first | (with_reducible assumption) | assumption)
    obtain ⟨ad243,e243,hx243_0⟩:=Kd.at_int HR0_1.out a1_1 p243 q243
    cases e243
    replace hx243_0:=(HB.out.cell (World.block_lt_of_cell? w _ hx243_0)).trans hx243_0
    replace p243:=eq_true p243
    replace q243:=eq_true q243
    go_wp2_with (first | (go_at_call 108;(with_reducible refine (impl_earlyAt.calls kj3 _ _ l0_2 a1_1 a1_2 t244 _ ?side1 ?side2 A161.out).mono ?_);(case side1=>exact rc (Kd.C_below HR0_2.out HB.out));(case side2=>exact HC0_2.out);rintro e w172 ⟨rfl,hb⟩;have n_ : _∧_∧_∧_∧_∧_∧_∧_∧_:=⟨ka HO_242000 hb,ka HO_242001 hb,ka HO_242002 hb,ka HO_242004 hb,kb BK225 hb,kb BK226 hb,kb BK227 hb,kb BK241 hb,kh HB hb⟩;clear HO_242000 HO_242001 HO_242002 HO_242004 BK225 BK226 BK227 BK241 HB;obtain ⟨HO_242000,HO_242001,HO_242002,HO_242004,BK225,BK226,BK227,BK241,HB⟩:=n_;(try clear hb);(try clear hb2);(try clear hk);(try clear hi);have hcz173_0 : w172.cell? ⟨gb225,0,none⟩ = some (.slice A0_0 l0_0.length c0_0):=(blk_cell BK225.out 0).trans rfl;have hcz173_1 : w172.cell? ⟨gb225,1,none⟩ = some (.slice (some ad243) l0_1.length c0_1):=(blk_cell BK225.out 1).trans rfl;have hcz173_2 : w172.cell? ⟨gb225,2,none⟩ = some (.slice A0_2 l0_2.length c0_2):=(blk_cell BK225.out 2).trans rfl;have hcz173_3 : w172.cell? ⟨gb225,3,none⟩ = some (.int .i64 a0_3):=(blk_cell BK225.out 3).trans rfl;have hcz173_4 : w172.cell? ⟨gb225,4,none⟩ = some (.slice A0_4 l0_4.length c0_4):=(blk_cell BK225.out 4).trans rfl;have hfz173_0:=blk_frozen BK225.out 0;have hfz173_1:=blk_frozen BK225.out 1;have hfz173_2:=blk_frozen BK225.out 2;have hfz173_3:=blk_frozen BK225.out 3;have hfz173_4:=blk_frozen BK225.out 4;have hnb174:=NB241_227.out;have hnc174:=NB227_241.out;have hcz175_0 : w172.cell? ⟨gb241,0,none⟩ = some (.slice Ao13 t228.length co13):=(blk_cell BK241.out 0).trans rfl;have hcz175_1 : w172.cell? ⟨gb241,1,none⟩ = some (.slice Ao18 t231.length co18):=(blk_cell BK241.out 1).trans rfl;have hcz175_2 : w172.cell? ⟨gb241,2,none⟩ = some (.slice Ao19 t234.length co19):=(blk_cell BK241.out 2).trans rfl;have hcz175_3 : w172.cell? ⟨gb241,3,none⟩ = some (.int .i64 t237):=(blk_cell BK241.out 3).trans rfl;have hcz175_4 : w172.cell? ⟨gb241,4,none⟩ = some (.slice Ao20 t238.length co20):=(blk_cell BK241.out 4).trans rfl;have hfz175_0:=blk_frozen BK241.out 0;have hfz175_1:=blk_frozen BK241.out 1;have hfz175_2:=blk_frozen BK241.out 2;have hfz175_3:=blk_frozen BK241.out 3;have hfz175_4:=blk_frozen BK241.out 4;have hcz176_0 : w172.cell? ⟨gb226,0,none⟩ = some (.int .i64 a1_0):=(blk_cell BK226.out 0).trans rfl;have hcz176_1 : w172.cell? ⟨gb226,1,none⟩ = some (.int .i64 a1_1):=(blk_cell BK226.out 1).trans rfl;have hcz176_2 : w172.cell? ⟨gb226,2,none⟩ = some (.int .i64 a1_2):=(blk_cell BK226.out 2).trans rfl;have hcz176_3 : w172.cell? ⟨gb226,3,none⟩ = some (.int .i64 a1_3):=(blk_cell BK226.out 3).trans rfl;have hcz176_4 : w172.cell? ⟨gb226,4,none⟩ = some (.int .i64 a1_4):=(blk_cell BK226.out 4).trans rfl;have hcz176_5 : w172.cell? ⟨gb226,5,none⟩ = some (.int .i64 a1_5):=(blk_cell BK226.out 5).trans rfl;have hcz176_6 : w172.cell? ⟨gb226,6,none⟩ = some (.int .i64 a1_6):=(blk_cell BK226.out 6).trans rfl;have hfz176_0:=blk_frozen BK226.out 0;have hfz176_1:=blk_frozen BK226.out 1;have hfz176_2:=blk_frozen BK226.out 2;have hfz176_3:=blk_frozen BK226.out 3;have hfz176_4:=blk_frozen BK226.out 4;have hfz176_5:=blk_frozen BK226.out 5;have hfz176_6:=blk_frozen BK226.out 6) | ((with_reducible refine gate_builtin (b:=.append) (xs:=#[.tmp 73,.tmp 81]) rfl ?_);(try (refine gate_guard (by rfl) ?_;dsimp only));at_builtin;refine Kd.R_append k127 (w0:=w) w.heap.size rfl (.tmp 73) (.tmp 81) 49 127 (.agg #[(.int .i64 0),(.int .i64 0),(.int .i64 0),(.int .i64 0),(.int .i64 0),(.int .i64 0)]) 48 rfl Try.underlying49 info127 rfl (by decide) (by omega) (.slice Ao19 t234.length co19) t234 (⟨a1_1,a1_2,(⟨a1_3,a1_4,a1_5,a1_6⟩ : S34)⟩ : S127) [.int .i64 a1_1,.int .i64 a1_2,.int .i64 a1_3,.int .i64 a1_4,.int .i64 a1_5,.int .i64 a1_6] (fun _=>True) (fun _=>False) rfl rfl ?aP (fun _ hk=>hk.elim) ?aF ?aO ?aB ?aS ?aL ?_;(case aP=>exact k127_mkM _ _ _ (⟨a1_1,a1_2,(⟨a1_3,a1_4,a1_5,a1_6⟩ : S34)⟩ : S127));(case aB=>exact (rb4 GE225.out GE226.out GE227.out GE241.out HB.out));(case aF=>exact (fun _ _=>trivial));(case aO=>exact (rr HO_242002.out));(case aS=>exact (below_size (rb4 GE225.out GE226.out GE227.out GE241.out HB.out)));(case aL=>have:=LMc164.out;omega);intro v246 w177 ho hb hg hat;rw [← Ny245.out] at ho;have n_ : _∧_∧_∧_∧_∧_∧_∧_∧_:=⟨ak (Kd.R_over' (rr HO_242000.out) (Kd.R_typed (rr HO_242002.out)) (by decide) hg),ak (Kd.R_over' (rr HO_242001.out) (Kd.R_typed (rr HO_242002.out)) (by decide) hg),ak (Kd.R_over' (rr HO_242004.out) (Kd.R_typed (rr HO_242002.out)) (by decide) hg),kg BK225 HO_242002 hg,kg BK226 HO_242002 hg,kg BK227 HO_242002 hg,kg BK241 HO_242002 hg,ak (hb),ak (ho)⟩;clear HO_242000 HO_242001 HO_242004 BK225 BK226 BK227 BK241 HB HO_242002 ho hb hg hat;obtain ⟨HO_242000,HO_242001,HO_242004,BK225,BK226,BK227,BK241,HB,HO247⟩:=n_;obtain ⟨Ao178,co178,eo178⟩:=Kd.R_slice HO247.out;subst eo178;have hcz179_0 : w177.cell? ⟨gb241,0,none⟩ = some (.slice Ao13 t228.length co13):=(blk_cell BK241.out 0).trans rfl;have hcz179_1 : w177.cell? ⟨gb241,1,none⟩ = some (.slice Ao18 t231.length co18):=(blk_cell BK241.out 1).trans rfl;have hcz179_2 : w177.cell? ⟨gb241,2,none⟩ = some (.slice Ao19 t234.length co19):=(blk_cell BK241.out 2).trans rfl;have hcz179_3 : w177.cell? ⟨gb241,3,none⟩ = some (.int .i64 t237):=(blk_cell BK241.out 3).trans rfl;have hcz179_4 : w177.cell? ⟨gb241,4,none⟩ = some (.slice Ao20 t238.length co20):=(blk_cell BK241.out 4).trans rfl;have hfz179_0:=blk_frozen BK241.out 0;have hfz179_1:=blk_frozen BK241.out 1;have hfz179_2:=blk_frozen BK241.out 2;have hfz179_3:=blk_frozen BK241.out 3;have hfz179_4:=blk_frozen BK241.out 4;have hcz180_0 : w177.cell? ⟨gb227,0,none⟩ = some (.slice none 0 0):=(blk_cell BK227.out 0).trans rfl;have hcz180_1 : w177.cell? ⟨gb227,1,none⟩ = some (.slice none 0 0):=(blk_cell BK227.out 1).trans rfl;have hcz180_2 : w177.cell? ⟨gb227,2,none⟩ = some (.slice none 0 0):=(blk_cell BK227.out 2).trans rfl;have hcz180_3 : w177.cell? ⟨gb227,3,none⟩ = some (.int .i64 0):=(blk_cell BK227.out 3).trans rfl;have hcz180_4 : w177.cell? ⟨gb227,4,none⟩ = some (.slice none 0 0):=(blk_cell BK227.out 4).trans rfl;have hfz180_0:=blk_frozen BK227.out 0;have hfz180_1:=blk_frozen BK227.out 1;have hfz180_2:=blk_frozen BK227.out 2;have hfz180_3:=blk_frozen BK227.out 3;have hfz180_4:=blk_frozen BK227.out 4))
    refine bodyPost_ret (results_ct rfl _ _ gb227 51 #[.slice Ao13 t228.length co13,.slice Ao18 t231.length co18,.slice Ao178 y245.length co178,.int .i64 t237,.slice Ao20 t238.length co20] (0,0) _ rfl (kq BK227) Try.underlying51 rfl (by kernel_rfl)) rfl ?_
    exact ⟨_,_,_,_,by first | rfl | (simp [errW_none,errW_some] <;> rfl) | (simp [*,errW_none,errW_some] <;> rfl),rfa HO_242000,rfa HO_242001,rfa HO247,rfa HO_242004,rbx HB⟩
   rw [if_pos c64] at H
   have c64b0 : (a1_2 == (rd l0_1 a1_1)) = true:=beq_iff_eq.mpr c64
   have c64b1 : (a1_2 != (rd l0_1 a1_1)) = false:=bne_eq_false_iff_eq.mpr c64
   clear c64
   by_cases c65 : t228.length < 2932031007402
   rotate_left
   ·rw [if_neg c65] at H
    exact absurd H (by simp)
   rw [if_pos c65] at H
   have LMc65:=ak c65
   clear c65
   obtain ⟨y248,hy248⟩ : ∃ y_ : List (S134),y_ = (t228 ++ [(⟨a1_1,a1_2,(⟨a1_3,a1_4,a1_5,a1_6⟩ : S34)⟩ : S134)]):=⟨_,rfl⟩
   replace H : (if a1_1 < (t231.length : Int) then (impl_Kept.l0 kj3 a1_0 a1_1 a1_2 a1_3 a1_4 a1_5 a1_6 y248 (t231.set (a1_1 : Int).toNat (wrap64 ((rd t231 a1_1) + 1))) t234 t237 t238) else (none)) = some (r1,r2,r3,r4,r5,r6):=by first | (rw [hy248];with_reducible exact H) | (have H2_:=(Option.bind_some _ _).symm.trans H;rw [hy248];with_reducible exact H2_) | (have H2_:=(Option.bind_some _ _).symm.trans H;with_reducible exact H2_) | with_reducible exact H | (rw [hy248];exact H) | exact H
   have Ny248:=ak hy248
   clear hy248
   by_cases c66 : a1_1 < (t231.length : Int)
   rotate_left
   ·rw [if_neg c66] at H
    exact absurd H (by simp)
   rw [if_pos c66] at H
   have c66b0 : decide (a1_1 < (t231.length : Int)) = true:=decide_eq_true c66
   clear c66
   obtain ⟨y252,hy252⟩ : ∃ y_ : List Int,y_ = (t231.set (a1_1 : Int).toNat (wrap64 ((rd t231 a1_1) + 1))):=⟨_,rfl⟩
   replace H : (impl_Kept.l0 kj3 a1_0 a1_1 a1_2 a1_3 a1_4 a1_5 a1_6 y248 y252 t234 t237 t238) = some (r1,r2,r3,r4,r5,r6):=by first | (rw [hy252];with_reducible exact H) | (have H2_:=(Option.bind_some _ _).symm.trans H;rw [hy252];with_reducible exact H2_) | (have H2_:=(Option.bind_some _ _).symm.trans H;with_reducible exact H2_) | with_reducible exact H | (rw [hy252];exact H) | exact H
   have Ny252:=ak hy252
   clear hy252
   have H':=ak H
   clear H
   have hnb68:=NB225_226.out
   have hnc68:=NB226_225.out
   have hnb69:=NB225_227.out
   have hnc69:=NB227_225.out
   have hnb70:=NB225_241.out
   have hnc70:=NB241_225.out
   have hz71:=bc5 BK225
   have hnb72:=NB226_227.out
   have hnc72:=NB227_226.out
   have hnb73:=NB226_241.out
   have hnc73:=NB241_226.out
   have hz74:=bc7 BK226
   have p243 : 0 ≤ (a1_1 : Int):=of_decide_eq_true (by first | (with_reducible assumption) | assumption)
   have q243 : a1_1 < (l0_1.length : Int):=of_decide_eq_true (by first | (with_reducible assumption) | assumption)
   obtain ⟨ad243,e243,hx243_0⟩:=Kd.at_int HR0_1.out a1_1 p243 q243
   cases e243
   replace hx243_0:=(HB.out.cell (World.block_lt_of_cell? w _ hx243_0)).trans hx243_0
   replace p243:=eq_true p243
   replace q243:=eq_true q243
   have hnb75:=NB241_227.out
   have hnc75:=NB227_241.out
   have hz76:=bc5 BK241
   go_wp2_with (first | ((with_reducible refine gate_builtin (b:=.append) (xs:=#[.tmp 86,.tmp 94]) rfl ?_);(try (refine gate_guard (by rfl) ?_;dsimp only));at_builtin;refine Kd.R_append k134 (w0:=w) w.heap.size rfl (.tmp 86) (.tmp 94) 48 134 (.agg #[(.int .i64 0),(.int .i64 0),(.int .i64 0),(.int .i64 0),(.int .i64 0),(.int .i64 0)]) 48 rfl Try.underlying48 info134 rfl (by decide) (by omega) (.slice Ao13 t228.length co13) t228 (⟨a1_1,a1_2,(⟨a1_3,a1_4,a1_5,a1_6⟩ : S34)⟩ : S134) [.int .i64 a1_1,.int .i64 a1_2,.int .i64 a1_3,.int .i64 a1_4,.int .i64 a1_5,.int .i64 a1_6] (fun _=>True) (fun _=>False) rfl rfl ?aP (fun _ hk=>hk.elim) ?aF ?aO ?aB ?aS ?aL ?_;(case aP=>exact k134_mkM _ _ _ (⟨a1_1,a1_2,(⟨a1_3,a1_4,a1_5,a1_6⟩ : S34)⟩ : S134));(case aB=>exact (rb4 GE225.out GE226.out GE227.out GE241.out HB.out));(case aF=>exact (fun _ _=>trivial));(case aO=>exact (rr HO_242000.out));(case aS=>exact (below_size (rb4 GE225.out GE226.out GE227.out GE241.out HB.out)));(case aL=>have:=LMc65.out;omega);intro v249 w77 ho hb hg hat;rw [← Ny248.out] at ho;have n_ : _∧_∧_∧_∧_∧_∧_∧_∧_:=⟨ak (Kd.R_over' (rr HO_242001.out) (Kd.R_typed (rr HO_242000.out)) (by decide) hg),ak (Kd.R_over' (rr HO_242002.out) (Kd.R_typed (rr HO_242000.out)) (by decide) hg),ak (Kd.R_over' (rr HO_242004.out) (Kd.R_typed (rr HO_242000.out)) (by decide) hg),kg BK225 HO_242000 hg,kg BK226 HO_242000 hg,kg BK227 HO_242000 hg,kg BK241 HO_242000 hg,ak (hb),ak (ho)⟩;clear HO_242001 HO_242002 HO_242004 BK225 BK226 BK227 BK241 HB HO_242000 ho hb hg hat;obtain ⟨HO_242001,HO_242002,HO_242004,BK225,BK226,BK227,BK241,HB,HO250⟩:=n_;obtain ⟨Ao78,co78,eo78⟩:=Kd.R_slice HO250.out;subst eo78;have hcz79_0 : w77.cell? ⟨gb241,0,none⟩ = some (.slice Ao13 t228.length co13):=(blk_cell BK241.out 0).trans rfl;have hcz79_1 : w77.cell? ⟨gb241,1,none⟩ = some (.slice Ao18 t231.length co18):=(blk_cell BK241.out 1).trans rfl;have hcz79_2 : w77.cell? ⟨gb241,2,none⟩ = some (.slice Ao19 t234.length co19):=(blk_cell BK241.out 2).trans rfl;have hcz79_3 : w77.cell? ⟨gb241,3,none⟩ = some (.int .i64 t237):=(blk_cell BK241.out 3).trans rfl;have hcz79_4 : w77.cell? ⟨gb241,4,none⟩ = some (.slice Ao20 t238.length co20):=(blk_cell BK241.out 4).trans rfl;have hfz79_0:=blk_frozen BK241.out 0;have hfz79_1:=blk_frozen BK241.out 1;have hfz79_2:=blk_frozen BK241.out 2;have hfz79_3:=blk_frozen BK241.out 3;have hfz79_4:=blk_frozen BK241.out 4) | ((with_reducible refine gate_store (t:=48) (p:=96) rfl ?_);refine store_event (t:=48) (p:=96) (v:=?vo_w80) (w1:=(w77.setCell ⟨gb241,0,none⟩ (.slice Ao78 y248.length co78))) ?hg ?ho ?hn ?hr ?_;(case ho=>rfl);(case hg=>rfl);(case hn=>rfl);(case hr=>first | (go_simp;done) | (go_simp;rfl));intro w80 hw;have n0_ : Aside0 (Kd.R (Kd.int .i64) 3 w80 w.heap.size (fun k_=>some k_ ≠ (.slice Ao20 t238.length co20 : Value).ownBlock) (.slice Ao18 t231.length co18) t231):=⟨(by rw [hw];exact (rfa HO_242001))⟩;have n1_ : Aside0 (Kd.R k127 127 w80 w.heap.size (fun _=>True) (.slice Ao19 t234.length co19) t234):=⟨(by rw [hw];exact (rfa HO_242002))⟩;have n2_ : Aside0 (Kd.R (Kd.int .i64) 3 w80 w.heap.size (fun k_=>some k_ ≠ (.slice Ao18 t231.length co18 : Value).ownBlock) (.slice Ao20 t238.length co20) t238):=⟨(by rw [hw];exact (rfa HO_242004))⟩;have n3_ : Aside0 (Kd.R k134 134 w80 w.heap.size (fun _=>True) (.slice Ao78 y248.length co78) y248):=⟨(by rw [hw];exact (rfa HO250))⟩;have n4_ : Aside0 (w80.heap[gb225]? = some (.cells #[.slice A0_0 l0_0.length c0_0,.slice (some ad243) l0_1.length c0_1,.slice A0_2 l0_2.length c0_2,.int .i64 a0_3,.slice A0_4 l0_4.length c0_4] 51 (0,0))):=⟨(by rw [hw];exact (kq BK225))⟩;have n5_ : Aside0 (w80.heap[gb226]? = some (.cells #[.int .i64 a1_0,.int .i64 a1_1,.int .i64 a1_2,.int .i64 a1_3,.int .i64 a1_4,.int .i64 a1_5,.int .i64 a1_6] 36 (0,0))):=⟨(by rw [hw];exact (kq BK226))⟩;have n6_ : Aside0 (w80.heap[gb227]? = some (.cells #[.slice none 0 0,.slice none 0 0,.slice none 0 0,.int .i64 0,.slice none 0 0] 51 (0,0))):=⟨(by rw [hw];exact (kq BK227))⟩;have n7_ : Aside0 (w80.heap[gb241]? = some (.cells #[.slice Ao78 y248.length co78,.slice Ao18 t231.length co18,.slice Ao19 t234.length co19,.int .i64 t237,.slice Ao20 t238.length co20] 51 (0,0))):=⟨(by rw [hw];exact (kq BK241))⟩;have n8_ : Aside0 (Below w.heap.size w w80):=⟨(by rw [hw];exact (rb4 GE225.out GE226.out GE227.out GE241.out HB.out))⟩;clear hw HO_242001 HO_242002 HO_242004 HO250 BK225 BK226 BK227 BK241 HB;have HO_242001:=n0_;have HO_242002:=n1_;have HO_242004:=n2_;have HO250:=n3_;have BK225:=n4_;have BK226:=n5_;have BK227:=n6_;have BK241:=n7_;have HB:=n8_;clear n0_ n1_ n2_ n3_ n4_ n5_ n6_ n7_ n8_;have hcz81_0 : w80.cell? ⟨gb241,0,none⟩ = some (.slice Ao78 y248.length co78):=(blk_cell BK241.out 0).trans rfl;have hcz81_1 : w80.cell? ⟨gb241,1,none⟩ = some (.slice Ao18 t231.length co18):=(blk_cell BK241.out 1).trans rfl;have hcz81_2 : w80.cell? ⟨gb241,2,none⟩ = some (.slice Ao19 t234.length co19):=(blk_cell BK241.out 2).trans rfl;have hcz81_3 : w80.cell? ⟨gb241,3,none⟩ = some (.int .i64 t237):=(blk_cell BK241.out 3).trans rfl;have hcz81_4 : w80.cell? ⟨gb241,4,none⟩ = some (.slice Ao20 t238.length co20):=(blk_cell BK241.out 4).trans rfl;have hfz81_0:=blk_frozen BK241.out 0;have hfz81_1:=blk_frozen BK241.out 1;have hfz81_2:=blk_frozen BK241.out 2;have hfz81_3:=blk_frozen BK241.out 3;have hfz81_4:=blk_frozen BK241.out 4;have hcz82_0 : w80.cell? ⟨gb226,0,none⟩ = some (.int .i64 a1_0):=(blk_cell BK226.out 0).trans rfl;have hcz82_1 : w80.cell? ⟨gb226,1,none⟩ = some (.int .i64 a1_1):=(blk_cell BK226.out 1).trans rfl;have hcz82_2 : w80.cell? ⟨gb226,2,none⟩ = some (.int .i64 a1_2):=(blk_cell BK226.out 2).trans rfl;have hcz82_3 : w80.cell? ⟨gb226,3,none⟩ = some (.int .i64 a1_3):=(blk_cell BK226.out 3).trans rfl;have hcz82_4 : w80.cell? ⟨gb226,4,none⟩ = some (.int .i64 a1_4):=(blk_cell BK226.out 4).trans rfl;have hcz82_5 : w80.cell? ⟨gb226,5,none⟩ = some (.int .i64 a1_5):=(blk_cell BK226.out 5).trans rfl;have hcz82_6 : w80.cell? ⟨gb226,6,none⟩ = some (.int .i64 a1_6):=(blk_cell BK226.out 6).trans rfl;have hfz82_0:=blk_frozen BK226.out 0;have hfz82_1:=blk_frozen BK226.out 1;have hfz82_2:=blk_frozen BK226.out 2;have hfz82_3:=blk_frozen BK226.out 3;have hfz82_4:=blk_frozen BK226.out 4;have hfz82_5:=blk_frozen BK226.out 5;have hfz82_6:=blk_frozen BK226.out 6;have p251 : 0 ≤ (a1_1 : Int):=of_decide_eq_true (by first | (with_reducible assumption) | assumption);have q251 : a1_1 < (t231.length : Int):=of_decide_eq_true (by first | (with_reducible assumption) | assumption);obtain ⟨ad251,e251,hx251_0⟩:=Kd.at_int (Kd.R_reads' HO_242001.out).2.2 a1_1 p251 q251;cases e251;replace p251:=eq_true p251;replace q251:=eq_true q251;have p67 : 0 ≤ (a1_1 : Int):=of_decide_eq_true (by first | (with_reducible assumption) | assumption);have q67 : (a1_1 : Int) < ((t231.length : Int) : Int):=of_decide_eq_true (by first | (with_reducible assumption) | assumption);obtain ⟨go67,co67,eo67,gb67,gl67,cl67,HG67⟩:=Kd.R_form HO_242001.out (by omega);(first | cases eo67 | (injection eo67 with ea_ en_ ec_;(first | subst ea_ | (injection ea_ with ea_;subst ea_));subst ec_;clear en_));have GB67:=ak gb67;have GG67:=ak HG67;clear gb67 gl67 HG67;(first | simp only [add_plain] at hx251_0 | skip);obtain ⟨hx67_0,hf67_0⟩:=Kd.R_celln 0 HO_242001.out (a1_1 : Int) p67 q67;replace p67:=eq_true p67;replace q67:=eq_true q67;obtain ⟨hy83_,hz83_⟩:=Kd.R_celln 0 HO_242001.out (a1_1 : Int) (of_decide_eq_true (by first | (with_reducible assumption) | assumption)) (of_decide_eq_true (by first | (with_reducible assumption) | assumption));have HP83:=Kd.R_putg HO_242001.out (a1_1 : Int) (wrap64 ((rd t231 a1_1) + 1))) | ((with_reducible refine gate_store (t:=3) (p:=104) rfl ?_);refine store_event (t:=3) (p:=104) (v:=?vo_w84) (w1:=(w80.setCell ⟨go67,(a1_1 : Int).toNat,none⟩ (.int .i64 (wrap64 ((rd t231 a1_1) + 1))))) ?hg ?ho ?hn ?hr ?_;(case ho=>rfl);(case hg=>rfl);(case hn=>rfl);(case hr=>first | (go_simp;done) | (go_simp;rfl));intro w84 hw;have hg : w80.grownBy w84 (some go67):=(by rw [hw];exact HP83.2);have hp_ : Kd.R (Kd.int .i64) 3 w84 w.heap.size (fun k_=>some k_ ≠ (.slice Ao20 t238.length co20 : Value).ownBlock) (.slice (some ⟨go67,0,none⟩) t231.length co18) y252:=(by rw [hw,Ny252.out];exact HP83.1);clear HP83;have n0_:=ak (hp_);have n1_:=ak (Kd.R_over' (v:=(.slice (some ⟨go67,0,none⟩) t231.length co18)) (rr HO_242002.out) (Kd.R_typed HO_242001.out) (by decide) hg);have n2_:=ak (Kd.R_after (v:=(.slice (some ⟨go67,0,none⟩) t231.length co18)) (v1:=(.slice (some ⟨go67,0,none⟩) t231.length co18)) (ok:=(fun _=>True)) (by (with_reducible repeat (first | apply Kd.R_alloc | apply Kd.R_drewN | apply Kd.R_drew));exact Kd.R_mono HO_242004.out (fun _ hk=>⟨trivial,hk⟩)) hg (.inl rfl));have n3_:=kg BK225 HO_242001 hg;have n4_:=kg BK226 HO_242001 hg;have n5_:=kg BK227 HO_242001 hg;have n6_:=kg BK241 HO_242001 hg;have n7_:=ak (Kd.R_over' (v:=(.slice (some ⟨go67,0,none⟩) t231.length co18)) (rr HO250.out) (Kd.R_typed HO_242001.out) (by decide) hg);have n8_:=ak ((by rw [hw];exact below_set (HB.out) GB67.out : Below w.heap.size w w84));clear HO_242001 HO_242002 HO_242004 BK225 BK226 BK227 BK241 HO250 HB;have HO_242001:=n0_;have HO_242002:=n1_;have HO_242004:=n2_;have BK225:=n3_;have BK226:=n4_;have BK227:=n5_;have BK241:=n6_;have HO250:=n7_;have HB:=n8_;clear n0_ n1_ n2_ n3_ n4_ n5_ n6_ n7_ n8_ hg hw hp_))
   go_loopg [] kj3 (fun kq w'=>∃ (x242000_2 : List (S134)) (x242001_2 : List Int) (x242002_2 : List (S127)) (x242004_2 : List Int) (u242000 : Value) (u242001 : Value) (u242002 : Value) (u242004 : Value),Aside0 (impl_Kept.l0 kq a1_0 a1_1 a1_2 a1_3 a1_4 a1_5 a1_6 x242000_2 x242001_2 x242002_2 t237 x242004_2 = some (r1,r2,r3,r4,r5,r6))∧Aside0 (kq ≤ kj3)∧Aside0 (Kd.R k134 134 w' w.heap.size (fun _=>True) u242000 x242000_2)∧Aside0 (Kd.R (Kd.int .i64) 3 w' w.heap.size (fun k_=>some k_ ≠ (u242004 : Value).ownBlock) u242001 x242001_2)∧Aside0 (Kd.R k127 127 w' w.heap.size (fun _=>True) u242002 x242002_2)∧Aside0 (Kd.R (Kd.int .i64) 3 w' w.heap.size (fun k_=>some k_ ≠ (u242001 : Value).ownBlock) u242004 x242004_2)∧Aside0 (w'.heap[gb225]? = some (.cells #[(.slice A0_0 l0_0.length c0_0),(.slice (some ad243) l0_1.length c0_1),(.slice A0_2 l0_2.length c0_2),.int .i64 a0_3,(.slice A0_4 l0_4.length c0_4)] 51 (0,0)))∧Aside0 (w'.heap[gb226]? = some (.cells #[.int .i64 a1_0,.int .i64 a1_1,.int .i64 a1_2,.int .i64 a1_3,.int .i64 a1_4,.int .i64 a1_5,.int .i64 a1_6] 36 (0,0)))∧Aside0 (w'.heap[gb227]? = some (.cells #[(.slice none 0 0),(.slice none 0 0),(.slice none 0 0),.int .i64 0,(.slice none 0 0)] 51 (0,0)))∧Aside0 (w'.heap[gb241]? = some (.cells #[u242000,u242001,u242002,.int .i64 t237,u242004] 51 (0,0)))∧Aside0 (Below w.heap.size w w'))
   case atStart=>exact ⟨(y248),(y252),(t234),(t238),(.slice Ao78 y248.length co78),(.slice (some ⟨go67,0,none⟩) t231.length co18),(.slice Ao19 t234.length co19),(.slice Ao20 t238.length co20),H',⟨Nat.le_refl _⟩,⟨rr HO250.out⟩,⟨rr HO_242001.out⟩,⟨rr HO_242002.out⟩,⟨rm HO_242004 (fun _ hk=>hk.2)⟩,⟨rk BK225.out⟩,⟨rk BK226.out⟩,⟨rk BK227.out⟩,⟨rk BK241.out⟩,⟨rbx HB⟩⟩
   case round =>
    clear H'
    try clear c1
    try clear c2
    try clear p2
    try clear q2
    try clear hx2
    try clear c3
    try clear c4
    try clear c5
    try clear c6
    try clear p6
    try clear q6
    try clear hx6
    try clear hf6
    try clear c7
    try clear c8
    try clear c9
    try clear c11
    try clear c14
    try clear c15
    try clear c16
    try clear c22
    try clear c23
    try clear c23b0
    try clear c23b1
    try clear c24
    try clear c24b0
    try clear p24
    try clear q24
    try clear hx24
    try clear c25
    try clear p25
    try clear q25
    try clear hx25
    try clear c26
    try clear c27
    try clear c29
    try clear c31
    try clear c32
    try clear c34
    try clear c35
    try clear c36
    try clear c40
    try clear c41
    try clear c43
    try clear c44
    try clear c45
    try clear c49
    try clear c50
    try clear c51
    try clear c54
    try clear c55
    try clear c56
    try clear c57
    try clear c59
    try clear c60
    try clear c62
    try clear c62b0
    try clear c63
    try clear c63b0
    try clear c64
    try clear c64b0
    try clear c64b1
    try clear p64
    try clear c65
    try clear c66
    try clear c66b0
    try clear p67
    try clear q67
    try clear hx67
    try clear hf67
    try clear c68
    try clear c69
    try clear c70
    try clear c72
    try clear c73
    try clear c75
    try clear hcz10_0
    try clear hcz10_1
    try clear hcz10_2
    try clear hcz10_3
    try clear hcz10_4
    try clear hcz17_0
    try clear hcz17_1
    try clear hcz17_2
    try clear hcz17_3
    try clear hcz17_4
    try clear hz28
    try clear hcz30_0
    try clear hcz30_1
    try clear hcz30_2
    try clear hcz30_3
    try clear hcz30_4
    try clear hcz30_5
    try clear hcz30_6
    try clear hcz33_0
    try clear hcz33_1
    try clear hcz33_2
    try clear hcz33_3
    try clear hcz33_4
    try clear hz37
    try clear hcz39_0
    try clear hcz39_1
    try clear hcz39_2
    try clear hcz39_3
    try clear hcz39_4
    try clear hcz39_5
    try clear hcz39_6
    try clear hcz42_0
    try clear hcz42_1
    try clear hcz42_2
    try clear hcz42_3
    try clear hcz42_4
    try clear hz46
    try clear hcz48_0
    try clear hcz48_1
    try clear hcz48_2
    try clear hcz48_3
    try clear hcz48_4
    try clear hcz48_5
    try clear hcz48_6
    try clear hz52
    try clear hz58
    try clear hz61
    try clear hz71
    try clear hz74
    try clear hz76
    try clear hcz79_0
    try clear hcz79_1
    try clear hcz79_2
    try clear hcz79_3
    try clear hcz79_4
    try clear hcz81_0
    try clear hcz81_1
    try clear hcz81_2
    try clear hcz81_3
    try clear hcz81_4
    try clear hcz82_0
    try clear hcz82_1
    try clear hcz82_2
    try clear hcz82_3
    try clear hcz82_4
    try clear hcz82_5
    try clear hcz82_6
    try clear hfz10_0
    try clear hfz10_1
    try clear hfz10_2
    try clear hfz10_3
    try clear hfz10_4
    try clear hfz17_0
    try clear hfz17_1
    try clear hfz17_2
    try clear hfz17_3
    try clear hfz17_4
    try clear hfz30_0
    try clear hfz30_1
    try clear hfz30_2
    try clear hfz30_3
    try clear hfz30_4
    try clear hfz30_5
    try clear hfz30_6
    try clear hfz33_0
    try clear hfz33_1
    try clear hfz33_2
    try clear hfz33_3
    try clear hfz33_4
    try clear hfz39_0
    try clear hfz39_1
    try clear hfz39_2
    try clear hfz39_3
    try clear hfz39_4
    try clear hfz39_5
    try clear hfz39_6
    try clear hfz42_0
    try clear hfz42_1
    try clear hfz42_2
    try clear hfz42_3
    try clear hfz42_4
    try clear hfz48_0
    try clear hfz48_1
    try clear hfz48_2
    try clear hfz48_3
    try clear hfz48_4
    try clear hfz48_5
    try clear hfz48_6
    try clear hfz79_0
    try clear hfz79_1
    try clear hfz79_2
    try clear hfz79_3
    try clear hfz79_4
    try clear hfz81_0
    try clear hfz81_1
    try clear hfz81_2
    try clear hfz81_3
    try clear hfz81_4
    try clear hfz82_0
    try clear hfz82_1
    try clear hfz82_2
    try clear hfz82_3
    try clear hfz82_4
    try clear hfz82_5
    try clear hfz82_6
    try clear hx243_0
    try clear hx251_0
    try clear hx67_0
    try clear p2
    try clear p243
    try clear p251
    try clear p67
    try clear q243
    try clear q251
    try clear q67
    obtain ⟨x242000_2,x242001_2,x242002_2,x242004_2,u242000,u242001,u242002,u242004,HA,HK2,HO_242000,HO_242001,HO_242002,HO_242004,BK225,BK226,BK227,BK241,HB⟩:=hrel
    cases gk with
    | zero=>exact absurd HA.out (by simp [impl_Kept.l0])
    | succ k2 =>
     have H:=HA.out
     clear HA
     simp only [impl_Kept.l0] at H
     by_cases c85 : (x242000_2.length : Int) < 200
     rotate_left
     ·rw [if_neg c85] at H
      have c85b0 : decide ((x242000_2.length : Int) < 200) = false:=decide_eq_false c85
      have c85b1 : decide (x242000_2.length < 200) = false:=decide_eq_false (by omega)
      clear c85
      simp only [Option.some.injEq,Prod.mk.injEq] at H
      obtain ⟨rfl,rfl,rfl,rfl,rfl,rfl⟩:=H
      have hnb148:=NB241_225.out
      have hnc148:=NB225_241.out
      have hnb149:=NB241_226.out
      have hnc149:=NB226_241.out
      have hnb150:=NB241_227.out
      have hnc150:=NB227_241.out
      have hz151:=bc5 BK241
      obtain ⟨Ao152,co152,eo152⟩:=Kd.R_slice HO_242000.out
      subst eo152
      have hnb153:=NB227_225.out
      have hnc153:=NB225_227.out
      have hnb154:=NB227_226.out
      have hnc154:=NB226_227.out
      have hz155:=bc5 BK227
      obtain ⟨Ao156,co156,eo156⟩:=Kd.R_slice HO_242001.out
      subst eo156
      obtain ⟨Ao157,co157,eo157⟩:=Kd.R_slice HO_242002.out
      subst eo157
      obtain ⟨Ao158,co158,eo158⟩:=Kd.R_slice HO_242004.out
      subst eo158
      go_wp2
      refine bodyPost_ret (results_ct rfl _ _ gb227 51 #[.slice Ao152 x242000_2.length co152,.slice Ao156 x242001_2.length co156,.slice Ao157 x242002_2.length co157,.int .i64 t237,.slice Ao158 x242004_2.length co158] (0,0) _ rfl (kq BK227) Try.underlying51 rfl (by kernel_rfl)) rfl ?_
      exact ⟨_,_,_,_,by first | rfl | (simp [errW_none,errW_some] <;> rfl) | (simp [*,errW_none,errW_some] <;> rfl),rfa HO_242000,rfa HO_242001,rfa HO_242002,rfa HO_242004,rbx HB⟩
     rw [if_pos c85] at H
     have c85b0 : decide ((x242000_2.length : Int) < 200) = true:=decide_eq_true c85
     have c85b1 : decide (x242000_2.length < 200) = true:=decide_eq_true (by omega)
     clear c85
     by_cases c86 : 0 ≤ a1_1
     rotate_left
     ·rw [if_neg c86] at H
      exact absurd H (by simp)
     rw [if_pos c86] at H
     have c86b0 : decide (0 ≤ a1_1) = true:=decide_eq_true c86
     clear c86
     by_cases c87 : a1_1 < (x242001_2.length : Int)
     rotate_left
     ·rw [if_neg c87] at H
      exact absurd H (by simp)
     rw [if_pos c87] at H
     have c87b0 : decide (a1_1 < (x242001_2.length : Int)) = true:=decide_eq_true c87
     clear c87
     replace H:=Option.bind_eq_some_iff.mp H
     obtain ⟨t254,A880,H⟩:=H
     try dsimp only at H
     have A88:=ak A880
     clear A880
     by_cases c89 : t254 < 0
     ·rw [if_pos c89] at H
      have c89b0 : decide (t254 < 0) = true:=decide_eq_true c89
      clear c89
      simp only [Option.some.injEq,Prod.mk.injEq] at H
      obtain ⟨rfl,rfl,rfl,rfl,rfl,rfl⟩:=H
      have hnb90:=NB241_225.out
      have hnc90:=NB225_241.out
      have hnb91:=NB241_226.out
      have hnc91:=NB226_241.out
      have hnb92:=NB241_227.out
      have hnc92:=NB227_241.out
      have hz93:=bc5 BK241
      obtain ⟨Ao94,co94,eo94⟩:=Kd.R_slice HO_242000.out
      subst eo94
      try go_wp2
      have n_ : _∧_∧_∧_∧_∧_∧_∧_∧_:=⟨ak (Kd.R_drew HO_242000.out),ak (Kd.R_drew HO_242001.out),ak (Kd.R_drew HO_242002.out),ak (Kd.R_drew HO_242004.out),ak (blk_drew BK225.out),ak (blk_drew BK226.out),ak (blk_drew BK227.out),ak (blk_drew BK241.out),ak (below_drew1 HB.out)⟩
      clear HO_242000 HO_242001 HO_242002 HO_242004 BK225 BK226 BK227 BK241 HB
      obtain ⟨HO_242000,HO_242001,HO_242002,HO_242004,BK225,BK226,BK227,BK241,HB⟩:=n_
      obtain ⟨Ao96,co96,eo96⟩:=Kd.R_slice HO_242001.out
      (first | subst eo96 | (injection eo96 with f1_ f2_ f3_;have f4_:=f1_.symm;have f5_:=f3_.symm;clear f1_ f2_ f3_;subst f4_;subst f5_))
      have p253 : 0 ≤ (a1_1 : Int):=of_decide_eq_true (by first | (with_reducible assumption) | assumption)
      have q253 : a1_1 < (x242001_2.length : Int):=of_decide_eq_true (by first | (with_reducible assumption) | assumption)
      obtain ⟨ad253,e253,hx253_0⟩:=Kd.at_int (Kd.R_reads' HO_242001.out).2.2 a1_1 p253 q253
      cases e253
      replace p253:=eq_true p253
      replace q253:=eq_true q253
      obtain ⟨Ao97,co97,eo97⟩:=Kd.R_slice HO_242002.out
      (first | subst eo97 | (injection eo97 with f1_ f2_ f3_;have f4_:=f1_.symm;have f5_:=f3_.symm;clear f1_ f2_ f3_;subst f4_;subst f5_))
      refine start_ (n:=12) (S:=fun w'=>w'.cell? ⟨gb241,0,none⟩ = some (.slice Ao94 x242000_2.length co94)∧w'.cell? ⟨gb241,1,none⟩ = some (.slice (some ad253) x242001_2.length co96)∧w'.cell? ⟨gb241,2,none⟩ = some (.slice Ao97 x242002_2.length co97)∧w'.cell? ⟨gb241,3,none⟩ = some (.int .i64 t237)∧w'.cell? ⟨gb241,4,none⟩ = some (u242004)∧w'.cell? ⟨gb226,0,none⟩ = some (.int .i64 a1_0)∧w'.cell? ⟨gb226,1,none⟩ = some (.int .i64 a1_1)∧w'.cell? ⟨gb226,2,none⟩ = some (.int .i64 a1_2)∧w'.cell? ⟨gb226,3,none⟩ = some (.int .i64 a1_3)∧w'.cell? ⟨gb226,4,none⟩ = some (.int .i64 a1_4)∧w'.cell? ⟨gb226,5,none⟩ = some (.int .i64 a1_5)∧w'.cell? ⟨gb226,6,none⟩ = some (.int .i64 a1_6)∧w'.cell? (ad253.add (a1_1).toNat) = some (.int .i64 (rd x242001_2 a1_1))) (ds:=[]) #[false,false,false,false,false,false,false,false,false,false,false,false] (by kernel_rfl) rfl rfl ⟨(blk_cell BK241.out 0).trans rfl,(blk_cell BK241.out 1).trans rfl,(blk_cell BK241.out 2).trans rfl,(blk_cell BK241.out 3).trans rfl,(blk_cell BK241.out 4).trans rfl,(blk_cell BK226.out 0).trans rfl,(blk_cell BK226.out 1).trans rfl,(blk_cell BK226.out 2).trans rfl,(blk_cell BK226.out 3).trans rfl,(blk_cell BK226.out 4).trans rfl,(blk_cell BK226.out 5).trans rfl,(blk_cell BK226.out 6).trans rfl,hx253_0⟩ (fun hHeld=>?_);refine with_tabW impl_Kept.tab12 impl_Kept.bits12 (fun HT_ HW_=>?_)
      generalize wr.drew = w95 at HO_242000 HO_242001 HO_242002 HO_242004 BK225 BK226 BK227 BK241 HB hx253_0 hHeld ⊢
      refine pure_ (i:=0) (N:=some 109) (v:=?_) (a':=?_) #[true,false,false,false,false,false,false,false,false,false,false,false] rfl rfl (any_of HT_.out (by kernel_rfl)) (fun _ _ _ h=>h) (Or.inl ⟨by rfl,?_⟩) ?_ ?_
      rotate_left
      ·intro w'
       go_simp
       with_reducible rfl
      rotate_left
      ·simp only [Act.put,List.setIfInBounds_toArray,List.set_cons_zero,List.set_cons_succ,i64_w,i32_w]
       rfl
      refine pure_ (i:=2) (N:=some 111) (v:=?_) (a':=?_) #[true,false,true,false,false,false,false,false,false,false,false,false] rfl rfl (any_of HT_.out (by kernel_rfl)) (fun _ _ _ h=>h) (Or.inl ⟨by rfl,?_⟩) ?_ ?_
      rotate_left
      ·intro w'
       go_simp
       with_reducible rfl
      rotate_left
      ·simp only [Act.put,List.setIfInBounds_toArray,List.set_cons_zero,List.set_cons_succ,i64_w,i32_w]
       rfl
      refine pure_ (i:=4) (N:=some 113) (v:=?_) (a':=?_) #[true,false,true,false,true,false,false,false,false,false,false,false] rfl rfl (any_of HT_.out (by kernel_rfl)) (fun _ _ _ h=>h) (Or.inl ⟨by rfl,?_⟩) ?_ ?_
      rotate_left
      ·intro w'
       go_simp
       with_reducible rfl
      rotate_left
      ·simp only [Act.put,List.setIfInBounds_toArray,List.set_cons_zero,List.set_cons_succ,i64_w,i32_w]
       rfl
      refine pure_ (i:=6) (N:=some 115) (v:=?_) (a':=?_) #[true,false,true,false,true,false,true,false,false,false,false,false] rfl rfl (any_of HT_.out (by kernel_rfl)) (fun _ _ _ h=>h) (Or.inl ⟨by rfl,?_⟩) ?_ ?_
      rotate_left
      ·intro w'
       go_simp
       with_reducible rfl
      rotate_left
      ·simp only [Act.put,List.setIfInBounds_toArray,List.set_cons_zero,List.set_cons_succ,i64_w,i32_w]
       rfl
      refine take_ (i:=1) (N:=some 110) (v:=?_) (a':=?_) #[true,true,true,false,true,false,true,false,false,false,false,false] rfl rfl (take_ofW HT_.out HW_.out (by kernel_rfl)) (fun _ _ _ h=>h) (Or.inl ⟨by rfl,?_⟩) hHeld ?_ ?_
      rotate_left
      ·rintro w' ⟨s0,s1,s2,s3,s4,s5,s6,s7,s8,s9,s10,s11,s12⟩
       go_simp
       with_reducible rfl
      rotate_left
      ·simp only [Act.put,List.setIfInBounds_toArray,List.set_cons_zero,List.set_cons_succ,i64_w,i32_w]
       rfl
      refine take_ (i:=3) (N:=some 112) (v:=?_) (a':=?_) #[true,true,true,true,true,false,true,false,false,false,false,false] rfl rfl (take_ofW HT_.out HW_.out (by kernel_rfl)) (fun _ _ _ h=>h) (Or.inl ⟨by rfl,?_⟩) hHeld ?_ ?_
      rotate_left
      ·rintro w' ⟨s0,s1,s2,s3,s4,s5,s6,s7,s8,s9,s10,s11,s12⟩
       go_simp
       with_reducible rfl
      rotate_left
      ·simp only [Act.put,List.setIfInBounds_toArray,List.set_cons_zero,List.set_cons_succ,i64_w,i32_w]
       rfl
      refine take_ (i:=5) (N:=some 114) (v:=?_) (a':=?_) #[true,true,true,true,true,true,true,false,false,false,false,false] rfl rfl (take_ofW HT_.out HW_.out (by kernel_rfl)) (fun _ _ _ h=>h) (Or.inl ⟨by rfl,?_⟩) hHeld ?_ ?_
      rotate_left
      ·rintro w' ⟨s0,s1,s2,s3,s4,s5,s6,s7,s8,s9,s10,s11,s12⟩
       go_simp
       with_reducible rfl
      rotate_left
      ·simp only [Act.put,List.setIfInBounds_toArray,List.set_cons_zero,List.set_cons_succ,i64_w,i32_w]
       rfl
      refine take_ (i:=7) (N:=some 116) (v:=?_) (a':=?_) #[true,true,true,true,true,true,true,true,false,false,false,false] rfl rfl (take_ofW HT_.out HW_.out (by kernel_rfl)) (fun _ _ _ h=>h) (Or.inl ⟨by rfl,?_⟩) hHeld ?_ ?_
      rotate_left
      ·rintro w' ⟨s0,s1,s2,s3,s4,s5,s6,s7,s8,s9,s10,s11,s12⟩
       go_simp
       with_reducible rfl
      rotate_left
      ·simp only [Act.put,List.setIfInBounds_toArray,List.set_cons_zero,List.set_cons_succ,i64_w,i32_w]
       rfl
      refine pure_ (i:=8) (N:=some 117) (v:=?_) (a':=?_) #[true,true,true,true,true,true,true,true,true,false,false,false] rfl rfl (any_of HT_.out (by kernel_rfl)) (fun _ _ _ h=>h) (Or.inl ⟨by rfl,?_⟩) ?_ ?_
      rotate_left
      ·intro w'
       go_simp
       with_reducible rfl
      rotate_left
      ·simp only [Act.put,List.setIfInBounds_toArray,List.set_cons_zero,List.set_cons_succ,i64_w,i32_w]
       rfl
      refine take_ (i:=9) (N:=some 118) (v:=?_) (a':=?_) #[true,true,true,true,true,true,true,true,true,true,false,false] rfl rfl (take_ofW HT_.out HW_.out (by kernel_rfl)) (fun _ _ _ h=>h) (Or.inl ⟨by rfl,?_⟩) hHeld ?_ ?_
      rotate_left
      ·rintro w' ⟨s0,s1,s2,s3,s4,s5,s6,s7,s8,s9,s10,s11,s12⟩
       go_simp
       with_reducible rfl
      rotate_left
      ·simp only [Act.put,List.setIfInBounds_toArray,List.set_cons_zero,List.set_cons_succ,i64_w,i32_w]
       rfl
      refine one_ (i:=10) (N:=some 119) #[true,true,true,true,true,true,true,true,true,true,true,false] rfl rfl (one_of HT_.out (by kernel_rfl)) (by decide) (fun K hK=>?_)
      refine goes_ Try.func108 (by kernel_rfl) rfl #[.slice Ao97 x242002_2.length co97,.int .i64 a1_1,.int .i64 (rd x242001_2 a1_1)] (by rfl) rfl rfl (by (try simp only [List.map_toArray,List.map_cons,List.map_nil]);first | done | rfl | (simp only [List.length_drop,List.length_take];rfl)) ?_
      with_reducible refine (impl_earlyAt.calls k2 _ _ x242002_2 a1_1 (rd x242001_2 a1_1) t254 _ ?side1 ?side2 A88.out).mono ?_
      (case side1=>exact rc (Kd.R_reads' HO_242002.out).2.2)
      (case side2=>exact (Kd.R_reads' HO_242002.out).2.1)
      rintro e w98 ⟨rfl,hb⟩
      have HS12_:=(hb.cell (World.block_lt_of_cell? _ _ (hHeld.2.2.2.2.2.2.2.2.2.2.2.2))).trans (hHeld.2.2.2.2.2.2.2.2.2.2.2.2)
      refine ⟨_,rfl,?_⟩
      have n_ : _∧_∧_∧_∧_∧_∧_∧_∧_:=⟨ka HO_242000 hb,ka HO_242001 hb,ka HO_242002 hb,ka HO_242004 hb,kb BK225 hb,kb BK226 hb,kb BK227 hb,kb BK241 hb,kh HB hb⟩
      clear HO_242000 HO_242001 HO_242002 HO_242004 BK225 BK226 BK227 BK241 HB
      obtain ⟨HO_242000,HO_242001,HO_242002,HO_242004,BK225,BK226,BK227,BK241,HB⟩:=n_
      (try clear hb)
      (try clear hb2)
      (try clear hk)
      (try clear hi)
      refine hK.out _ _ ⟨(blk_cell BK241.out 0).trans rfl,(blk_cell BK241.out 1).trans rfl,(blk_cell BK241.out 2).trans rfl,(blk_cell BK241.out 3).trans rfl,(blk_cell BK241.out 4).trans rfl,(blk_cell BK226.out 0).trans rfl,(blk_cell BK226.out 1).trans rfl,(blk_cell BK226.out 2).trans rfl,(blk_cell BK226.out 3).trans rfl,(blk_cell BK226.out 4).trans rfl,(blk_cell BK226.out 5).trans rfl,(blk_cell BK226.out 6).trans rfl,HS12_⟩ (fun hHeld=>?_)
      clear hK K
      refine norm_ (a':=?_) ?_ ?_
      rotate_left
      ·show Act.put _ (some 119) _ = _
       simp only [Act.put,List.setIfInBounds_toArray,List.set_cons_zero,List.set_cons_succ,i64_w,i32_w]
       rfl
      refine pure_ (i:=11) (N:=some 8) (v:=?_) (a':=?_) #[true,true,true,true,true,true,true,true,true,true,true,true] rfl rfl (any_of HT_.out (by kernel_rfl)) (fun _ _ _ h=>h) (Or.inl ⟨by rfl,?_⟩) ?_ ?_
      rotate_left
      ·intro w'
       go_simp
       with_reducible rfl
      rotate_left
      ·simp only [Act.put,List.setIfInBounds_toArray,List.set_cons_zero,List.set_cons_succ,i64_w,i32_w]
       rfl
      refine done_ (done_of HT_.out (by kernel_rfl)) ?_
      have hz99:=bc5 BK241
      have hnb100:=NB227_225.out
      have hnc100:=NB225_227.out
      have hnb101:=NB227_226.out
      have hnc101:=NB226_227.out
      have hz102:=bc5 BK227
      obtain ⟨Ao103,co103,eo103⟩:=Kd.R_slice HO_242004.out
      subst eo103
      try go_wp2
      refine bodyPost_ret (results_ct rfl _ _ gb227 51 #[.slice Ao94 x242000_2.length co94,.slice (some ad253) x242001_2.length co96,.slice Ao97 x242002_2.length co97,.int .i64 t237,.slice Ao103 x242004_2.length co103] (0,0) _ rfl (kq BK227) Try.underlying51 rfl (by kernel_rfl)) rfl ?_
      exact ⟨_,_,_,_,by first | rfl | (simp [errW_none,errW_some] <;> rfl) | (simp [*,errW_none,errW_some] <;> rfl),rfa HO_242000,rfa HO_242001,rfa HO_242002,rfa HO_242004,rbx HB⟩
     rw [if_neg c89] at H
     have c89b0 : decide (t254 < 0) = false:=decide_eq_false c89
     clear c89
     by_cases c104 : 0 ≤ t254
     rotate_left
     ·rw [if_neg c104] at H
      exact absurd H (by simp)
     rw [if_pos c104] at H
     have c104b0 : decide (0 ≤ t254) = true:=decide_eq_true c104
     clear c104
     by_cases c105 : t254 < (x242002_2.length : Int)
     rotate_left
     ·rw [if_neg c105] at H
      exact absurd H (by simp)
     rw [if_pos c105] at H
     have c105b0 : decide (t254 < (x242002_2.length : Int)) = true:=decide_eq_true c105
     clear c105
     have c106b0:=eq_true (of_decide_eq_true (by first | (with_reducible assumption) | assumption) : 0 ≤ t254)
     by_cases c107 : t254 ≤ (x242002_2.length : Int)
     rotate_left
     ·rw [if_neg c107] at H
      exact absurd H (by simp)
     rw [if_pos c107] at H
     have c107b0:=eq_true c107
     have c107b1 : decide (t254 ≤ (x242002_2.length : Int)) = true:=decide_eq_true c107
     clear c107
     obtain ⟨y257,hy257⟩ : ∃ y_ : List (S127),y_ = (x242002_2.take (t254 : Int).toNat):=⟨_,rfl⟩
     replace H : (if 0 ≤ (wrap64 (t254 + 1)) then (if (wrap64 (t254 + 1)) ≤ (x242002_2.length : Int) then (if x242000_2.length < 2932031007402 then (impl_Kept.l0 k2 a1_0 a1_1 a1_2 a1_3 a1_4 a1_5 a1_6 (x242000_2 ++ [(⟨(rd_T127 x242002_2 t254).f0,(rd_T127 x242002_2 t254).f1,(⟨(rd_T127 x242002_2 t254).f2.f0,(rd_T127 x242002_2 t254).f2.f1,(rd_T127 x242002_2 t254).f2.f2,(rd_T127 x242002_2 t254).f2.f3⟩ : S34)⟩ : S134)]) (x242001_2.set (a1_1 : Int).toNat (wrap64 ((rd x242001_2 a1_1) + 1))) (x242002_2.eraseIdx (t254 : Int).toNat) t237 x242004_2) else (none)) else (none)) else (none)) = some (r1,r2,r3,r4,r5,r6):=by first | (rw [hy257];with_reducible exact H) | (have H2_:=(Option.bind_some _ _).symm.trans H;rw [hy257];with_reducible exact H2_) | (have H2_:=(Option.bind_some _ _).symm.trans H;with_reducible exact H2_) | with_reducible exact H | (rw [hy257];exact H) | exact H
     have Ny257:=ak hy257
     clear hy257
     obtain ⟨ji108,hji108⟩ : ∃ j_ : Int,(wrap64 (t254 + 1)) = j_:=⟨_,rfl⟩
     replace H : (if 0 ≤ (ji108) then (if (ji108) ≤ (x242002_2.length : Int) then (if x242000_2.length < 2932031007402 then (impl_Kept.l0 k2 a1_0 a1_1 a1_2 a1_3 a1_4 a1_5 a1_6 (x242000_2 ++ [(⟨(rd_T127 x242002_2 t254).f0,(rd_T127 x242002_2 t254).f1,(⟨(rd_T127 x242002_2 t254).f2.f0,(rd_T127 x242002_2 t254).f2.f1,(rd_T127 x242002_2 t254).f2.f2,(rd_T127 x242002_2 t254).f2.f3⟩ : S34)⟩ : S134)]) (x242001_2.set (a1_1 : Int).toNat (wrap64 ((rd x242001_2 a1_1) + 1))) (x242002_2.eraseIdx (t254 : Int).toNat) t237 x242004_2) else (none)) else (none)) else (none)) = some (r1,r2,r3,r4,r5,r6):=by first | (rw [hji108] at H;exact H) | (simp only [hji108] at H ⊢;exact H)
     (try rw [hji108] at A88)
     have hji108w : (IntKind.i64.wrap (t254 + 1)) = ji108:=(i64_w _).trans hji108
     by_cases c109 : 0 ≤ (ji108)
     rotate_left
     ·rw [if_neg c109] at H
      exact absurd H (by simp)
     rw [if_pos c109] at H
     have c109b0:=eq_true c109
     have c109b1 : decide (0 ≤ (ji108)) = true:=decide_eq_true c109
     clear c109
     by_cases c110 : (ji108) ≤ (x242002_2.length : Int)
     rotate_left
     ·rw [if_neg c110] at H
      exact absurd H (by simp)
     rw [if_pos c110] at H
     have c110b0:=eq_true c110
     have c110b1 : decide ((ji108) ≤ (x242002_2.length : Int)) = true:=decide_eq_true c110
     clear c110
     obtain ⟨y261,hy261⟩ : ∃ y_ : List (S127),y_ = (x242002_2.drop ((ji108) : Int).toNat):=⟨_,rfl⟩
     replace H : (if x242000_2.length < 2932031007402 then (impl_Kept.l0 k2 a1_0 a1_1 a1_2 a1_3 a1_4 a1_5 a1_6 (x242000_2 ++ [(⟨(rd_T127 x242002_2 t254).f0,(rd_T127 x242002_2 t254).f1,(⟨(rd_T127 x242002_2 t254).f2.f0,(rd_T127 x242002_2 t254).f2.f1,(rd_T127 x242002_2 t254).f2.f2,(rd_T127 x242002_2 t254).f2.f3⟩ : S34)⟩ : S134)]) (x242001_2.set (a1_1 : Int).toNat (wrap64 ((rd x242001_2 a1_1) + 1))) (x242002_2.eraseIdx (t254 : Int).toNat) t237 x242004_2) else (none)) = some (r1,r2,r3,r4,r5,r6):=by first | (rw [hy261];with_reducible exact H) | (have H2_:=(Option.bind_some _ _).symm.trans H;rw [hy261];with_reducible exact H2_) | (have H2_:=(Option.bind_some _ _).symm.trans H;with_reducible exact H2_) | with_reducible exact H | (rw [hy261];exact H) | exact H
     have Ny261:=ak hy261
     clear hy261
     obtain ⟨y265,hy265⟩ : ∃ y_ : List (S127),y_ = (x242002_2.eraseIdx (t254 : Int).toNat):=⟨_,rfl⟩
     replace H : (if x242000_2.length < 2932031007402 then (impl_Kept.l0 k2 a1_0 a1_1 a1_2 a1_3 a1_4 a1_5 a1_6 (x242000_2 ++ [(⟨(rd_T127 x242002_2 t254).f0,(rd_T127 x242002_2 t254).f1,(⟨(rd_T127 x242002_2 t254).f2.f0,(rd_T127 x242002_2 t254).f2.f1,(rd_T127 x242002_2 t254).f2.f2,(rd_T127 x242002_2 t254).f2.f3⟩ : S34)⟩ : S134)]) (x242001_2.set (a1_1 : Int).toNat (wrap64 ((rd x242001_2 a1_1) + 1))) y265 t237 x242004_2) else (none)) = some (r1,r2,r3,r4,r5,r6):=by first | (rw [hy265];with_reducible exact H) | (have H2_:=(Option.bind_some _ _).symm.trans H;rw [hy265];with_reducible exact H2_) | (have H2_:=(Option.bind_some _ _).symm.trans H;with_reducible exact H2_) | with_reducible exact H | (rw [hy265];exact H) | exact H
     have Ny265:=ak hy265
     clear hy265
     by_cases c111 : x242000_2.length < 2932031007402
     rotate_left
     ·rw [if_neg c111] at H
      exact absurd H (by simp)
     rw [if_pos c111] at H
     have LMc111:=ak c111
     clear c111
     obtain ⟨y268,hy268⟩ : ∃ y_ : List (S134),y_ = (x242000_2 ++ [(⟨(rd_T127 x242002_2 t254).f0,(rd_T127 x242002_2 t254).f1,(⟨(rd_T127 x242002_2 t254).f2.f0,(rd_T127 x242002_2 t254).f2.f1,(rd_T127 x242002_2 t254).f2.f2,(rd_T127 x242002_2 t254).f2.f3⟩ : S34)⟩ : S134)]):=⟨_,rfl⟩
     replace H : (impl_Kept.l0 k2 a1_0 a1_1 a1_2 a1_3 a1_4 a1_5 a1_6 y268 (x242001_2.set (a1_1 : Int).toNat (wrap64 ((rd x242001_2 a1_1) + 1))) y265 t237 x242004_2) = some (r1,r2,r3,r4,r5,r6):=by first | (rw [hy268];with_reducible exact H) | (have H2_:=(Option.bind_some _ _).symm.trans H;rw [hy268];with_reducible exact H2_) | (have H2_:=(Option.bind_some _ _).symm.trans H;with_reducible exact H2_) | with_reducible exact H | (rw [hy268];exact H) | exact H
     have Ny268:=ak hy268
     clear hy268
     obtain ⟨y272,hy272⟩ : ∃ y_ : List Int,y_ = (x242001_2.set (a1_1 : Int).toNat (wrap64 ((rd x242001_2 a1_1) + 1))):=⟨_,rfl⟩
     replace H : (impl_Kept.l0 k2 a1_0 a1_1 a1_2 a1_3 a1_4 a1_5 a1_6 y268 y272 y265 t237 x242004_2) = some (r1,r2,r3,r4,r5,r6):=by first | (rw [hy272];with_reducible exact H) | (have H2_:=(Option.bind_some _ _).symm.trans H;rw [hy272];with_reducible exact H2_) | (have H2_:=(Option.bind_some _ _).symm.trans H;with_reducible exact H2_) | with_reducible exact H | (rw [hy272];exact H) | exact H
     have Ny272:=ak hy272
     clear hy272
     have H':=ak H
     clear H
     have hnb113:=NB241_225.out
     have hnc113:=NB225_241.out
     have hnb114:=NB241_226.out
     have hnc114:=NB226_241.out
     have hnb115:=NB241_227.out
     have hnc115:=NB227_241.out
     have hz116:=bc5 BK241
     obtain ⟨Ao117,co117,eo117⟩:=Kd.R_slice HO_242000.out
     subst eo117
     try go_wp2
     have n_ : _∧_∧_∧_∧_∧_∧_∧_∧_:=⟨ak (Kd.R_drew HO_242000.out),ak (Kd.R_drew HO_242001.out),ak (Kd.R_drew HO_242002.out),ak (Kd.R_drew HO_242004.out),ak (blk_drew BK225.out),ak (blk_drew BK226.out),ak (blk_drew BK227.out),ak (blk_drew BK241.out),ak (below_drew1 HB.out)⟩
     clear HO_242000 HO_242001 HO_242002 HO_242004 BK225 BK226 BK227 BK241 HB
     obtain ⟨HO_242000,HO_242001,HO_242002,HO_242004,BK225,BK226,BK227,BK241,HB⟩:=n_
     obtain ⟨Ao119,co119,eo119⟩:=Kd.R_slice HO_242001.out
     (first | subst eo119 | (injection eo119 with f1_ f2_ f3_;have f4_:=f1_.symm;have f5_:=f3_.symm;clear f1_ f2_ f3_;subst f4_;subst f5_))
     have p253 : 0 ≤ (a1_1 : Int):=of_decide_eq_true (by first | (with_reducible assumption) | assumption)
     have q253 : a1_1 < (x242001_2.length : Int):=of_decide_eq_true (by first | (with_reducible assumption) | assumption)
     obtain ⟨ad253,e253,hx253_0⟩:=Kd.at_int (Kd.R_reads' HO_242001.out).2.2 a1_1 p253 q253
     cases e253
     replace p253:=eq_true p253
     replace q253:=eq_true q253
     obtain ⟨Ao120,co120,eo120⟩:=Kd.R_slice HO_242002.out
     (first | subst eo120 | (injection eo120 with f1_ f2_ f3_;have f4_:=f1_.symm;have f5_:=f3_.symm;clear f1_ f2_ f3_;subst f4_;subst f5_))
     refine start_ (n:=12) (S:=fun w'=>w'.cell? ⟨gb241,0,none⟩ = some (.slice Ao117 x242000_2.length co117)∧w'.cell? ⟨gb241,1,none⟩ = some (.slice (some ad253) x242001_2.length co119)∧w'.cell? ⟨gb241,2,none⟩ = some (.slice Ao120 x242002_2.length co120)∧w'.cell? ⟨gb241,3,none⟩ = some (.int .i64 t237)∧w'.cell? ⟨gb241,4,none⟩ = some (u242004)∧w'.cell? ⟨gb226,0,none⟩ = some (.int .i64 a1_0)∧w'.cell? ⟨gb226,1,none⟩ = some (.int .i64 a1_1)∧w'.cell? ⟨gb226,2,none⟩ = some (.int .i64 a1_2)∧w'.cell? ⟨gb226,3,none⟩ = some (.int .i64 a1_3)∧w'.cell? ⟨gb226,4,none⟩ = some (.int .i64 a1_4)∧w'.cell? ⟨gb226,5,none⟩ = some (.int .i64 a1_5)∧w'.cell? ⟨gb226,6,none⟩ = some (.int .i64 a1_6)∧w'.cell? (ad253.add (a1_1).toNat) = some (.int .i64 (rd x242001_2 a1_1))) (ds:=[]) #[false,false,false,false,false,false,false,false,false,false,false,false] (by kernel_rfl) rfl rfl ⟨(blk_cell BK241.out 0).trans rfl,(blk_cell BK241.out 1).trans rfl,(blk_cell BK241.out 2).trans rfl,(blk_cell BK241.out 3).trans rfl,(blk_cell BK241.out 4).trans rfl,(blk_cell BK226.out 0).trans rfl,(blk_cell BK226.out 1).trans rfl,(blk_cell BK226.out 2).trans rfl,(blk_cell BK226.out 3).trans rfl,(blk_cell BK226.out 4).trans rfl,(blk_cell BK226.out 5).trans rfl,(blk_cell BK226.out 6).trans rfl,hx253_0⟩ (fun hHeld=>?_);refine with_tabW impl_Kept.tab12 impl_Kept.bits12 (fun HT_ HW_=>?_)
     generalize wr.drew = w118 at HO_242000 HO_242001 HO_242002 HO_242004 BK225 BK226 BK227 BK241 HB hx253_0 hHeld ⊢
     refine pure_ (i:=0) (N:=some 109) (v:=?_) (a':=?_) #[true,false,false,false,false,false,false,false,false,false,false,false] rfl rfl (any_of HT_.out (by kernel_rfl)) (fun _ _ _ h=>h) (Or.inl ⟨by rfl,?_⟩) ?_ ?_
     rotate_left
     ·intro w'
      go_simp
      with_reducible rfl
     rotate_left
     ·simp only [Act.put,List.setIfInBounds_toArray,List.set_cons_zero,List.set_cons_succ,i64_w,i32_w]
      rfl
     refine pure_ (i:=2) (N:=some 111) (v:=?_) (a':=?_) #[true,false,true,false,false,false,false,false,false,false,false,false] rfl rfl (any_of HT_.out (by kernel_rfl)) (fun _ _ _ h=>h) (Or.inl ⟨by rfl,?_⟩) ?_ ?_
     rotate_left
     ·intro w'
      go_simp
      with_reducible rfl
     rotate_left
     ·simp only [Act.put,List.setIfInBounds_toArray,List.set_cons_zero,List.set_cons_succ,i64_w,i32_w]
      rfl
     refine pure_ (i:=4) (N:=some 113) (v:=?_) (a':=?_) #[true,false,true,false,true,false,false,false,false,false,false,false] rfl rfl (any_of HT_.out (by kernel_rfl)) (fun _ _ _ h=>h) (Or.inl ⟨by rfl,?_⟩) ?_ ?_
     rotate_left
     ·intro w'
      go_simp
      with_reducible rfl
     rotate_left
     ·simp only [Act.put,List.setIfInBounds_toArray,List.set_cons_zero,List.set_cons_succ,i64_w,i32_w]
      rfl
     refine pure_ (i:=6) (N:=some 115) (v:=?_) (a':=?_) #[true,false,true,false,true,false,true,false,false,false,false,false] rfl rfl (any_of HT_.out (by kernel_rfl)) (fun _ _ _ h=>h) (Or.inl ⟨by rfl,?_⟩) ?_ ?_
     rotate_left
     ·intro w'
      go_simp
      with_reducible rfl
     rotate_left
     ·simp only [Act.put,List.setIfInBounds_toArray,List.set_cons_zero,List.set_cons_succ,i64_w,i32_w]
      rfl
     refine take_ (i:=1) (N:=some 110) (v:=?_) (a':=?_) #[true,true,true,false,true,false,true,false,false,false,false,false] rfl rfl (take_ofW HT_.out HW_.out (by kernel_rfl)) (fun _ _ _ h=>h) (Or.inl ⟨by rfl,?_⟩) hHeld ?_ ?_
     rotate_left
     ·rintro w' ⟨s0,s1,s2,s3,s4,s5,s6,s7,s8,s9,s10,s11,s12⟩
      go_simp
      with_reducible rfl
     rotate_left
     ·simp only [Act.put,List.setIfInBounds_toArray,List.set_cons_zero,List.set_cons_succ,i64_w,i32_w]
      rfl
     refine take_ (i:=3) (N:=some 112) (v:=?_) (a':=?_) #[true,true,true,true,true,false,true,false,false,false,false,false] rfl rfl (take_ofW HT_.out HW_.out (by kernel_rfl)) (fun _ _ _ h=>h) (Or.inl ⟨by rfl,?_⟩) hHeld ?_ ?_
     rotate_left
     ·rintro w' ⟨s0,s1,s2,s3,s4,s5,s6,s7,s8,s9,s10,s11,s12⟩
      go_simp
      with_reducible rfl
     rotate_left
     ·simp only [Act.put,List.setIfInBounds_toArray,List.set_cons_zero,List.set_cons_succ,i64_w,i32_w]
      rfl
     refine take_ (i:=5) (N:=some 114) (v:=?_) (a':=?_) #[true,true,true,true,true,true,true,false,false,false,false,false] rfl rfl (take_ofW HT_.out HW_.out (by kernel_rfl)) (fun _ _ _ h=>h) (Or.inl ⟨by rfl,?_⟩) hHeld ?_ ?_
     rotate_left
     ·rintro w' ⟨s0,s1,s2,s3,s4,s5,s6,s7,s8,s9,s10,s11,s12⟩
      go_simp
      with_reducible rfl
     rotate_left
     ·simp only [Act.put,List.setIfInBounds_toArray,List.set_cons_zero,List.set_cons_succ,i64_w,i32_w]
      rfl
     refine take_ (i:=7) (N:=some 116) (v:=?_) (a':=?_) #[true,true,true,true,true,true,true,true,false,false,false,false] rfl rfl (take_ofW HT_.out HW_.out (by kernel_rfl)) (fun _ _ _ h=>h) (Or.inl ⟨by rfl,?_⟩) hHeld ?_ ?_
     rotate_left
     ·rintro w' ⟨s0,s1,s2,s3,s4,s5,s6,s7,s8,s9,s10,s11,s12⟩
      go_simp
      with_reducible rfl
     rotate_left
     ·simp only [Act.put,List.setIfInBounds_toArray,List.set_cons_zero,List.set_cons_succ,i64_w,i32_w]
      rfl
     refine pure_ (i:=8) (N:=some 117) (v:=?_) (a':=?_) #[true,true,true,true,true,true,true,true,true,false,false,false] rfl rfl (any_of HT_.out (by kernel_rfl)) (fun _ _ _ h=>h) (Or.inl ⟨by rfl,?_⟩) ?_ ?_
     rotate_left
     ·intro w'
      go_simp
      with_reducible rfl
     rotate_left
     ·simp only [Act.put,List.setIfInBounds_toArray,List.set_cons_zero,List.set_cons_succ,i64_w,i32_w]
      rfl
     refine take_ (i:=9) (N:=some 118) (v:=?_) (a':=?_) #[true,true,true,true,true,true,true,true,true,true,false,false] rfl rfl (take_ofW HT_.out HW_.out (by kernel_rfl)) (fun _ _ _ h=>h) (Or.inl ⟨by rfl,?_⟩) hHeld ?_ ?_
     rotate_left
     ·rintro w' ⟨s0,s1,s2,s3,s4,s5,s6,s7,s8,s9,s10,s11,s12⟩
      go_simp
      with_reducible rfl
     rotate_left
     ·simp only [Act.put,List.setIfInBounds_toArray,List.set_cons_zero,List.set_cons_succ,i64_w,i32_w]
      rfl
     refine one_ (i:=10) (N:=some 119) #[true,true,true,true,true,true,true,true,true,true,true,false] rfl rfl (one_of HT_.out (by kernel_rfl)) (by decide) (fun K hK=>?_)
     refine goes_ Try.func108 (by kernel_rfl) rfl #[.slice Ao120 x242002_2.length co120,.int .i64 a1_1,.int .i64 (rd x242001_2 a1_1)] (by rfl) rfl rfl (by (try simp only [List.map_toArray,List.map_cons,List.map_nil]);first | done | rfl | (simp only [List.length_drop,List.length_take];rfl)) ?_
     with_reducible refine (impl_earlyAt.calls k2 _ _ x242002_2 a1_1 (rd x242001_2 a1_1) t254 _ ?side1 ?side2 A88.out).mono ?_
     (case side1=>exact rc (Kd.R_reads' HO_242002.out).2.2)
     (case side2=>exact (Kd.R_reads' HO_242002.out).2.1)
     rintro e w121 ⟨rfl,hb⟩
     have HS12_:=(hb.cell (World.block_lt_of_cell? _ _ (hHeld.2.2.2.2.2.2.2.2.2.2.2.2))).trans (hHeld.2.2.2.2.2.2.2.2.2.2.2.2)
     refine ⟨_,rfl,?_⟩
     have n_ : _∧_∧_∧_∧_∧_∧_∧_∧_:=⟨ka HO_242000 hb,ka HO_242001 hb,ka HO_242002 hb,ka HO_242004 hb,kb BK225 hb,kb BK226 hb,kb BK227 hb,kb BK241 hb,kh HB hb⟩
     clear HO_242000 HO_242001 HO_242002 HO_242004 BK225 BK226 BK227 BK241 HB
     obtain ⟨HO_242000,HO_242001,HO_242002,HO_242004,BK225,BK226,BK227,BK241,HB⟩:=n_
     (try clear hb)
     (try clear hb2)
     (try clear hk)
     (try clear hi)
     refine hK.out _ _ ⟨(blk_cell BK241.out 0).trans rfl,(blk_cell BK241.out 1).trans rfl,(blk_cell BK241.out 2).trans rfl,(blk_cell BK241.out 3).trans rfl,(blk_cell BK241.out 4).trans rfl,(blk_cell BK226.out 0).trans rfl,(blk_cell BK226.out 1).trans rfl,(blk_cell BK226.out 2).trans rfl,(blk_cell BK226.out 3).trans rfl,(blk_cell BK226.out 4).trans rfl,(blk_cell BK226.out 5).trans rfl,(blk_cell BK226.out 6).trans rfl,HS12_⟩ (fun hHeld=>?_)
     clear hK K
     refine norm_ (a':=?_) ?_ ?_
     rotate_left
     ·show Act.put _ (some 119) _ = _
      simp only [Act.put,List.setIfInBounds_toArray,List.set_cons_zero,List.set_cons_succ,i64_w,i32_w]
      rfl
     refine pure_ (i:=11) (N:=some 8) (v:=?_) (a':=?_) #[true,true,true,true,true,true,true,true,true,true,true,true] rfl rfl (any_of HT_.out (by kernel_rfl)) (fun _ _ _ h=>h) (Or.inl ⟨by rfl,?_⟩) ?_ ?_
     rotate_left
     ·intro w'
      go_simp
      with_reducible rfl
     rotate_left
     ·simp only [Act.put,List.setIfInBounds_toArray,List.set_cons_zero,List.set_cons_succ,i64_w,i32_w]
      rfl
     refine done_ (done_of HT_.out (by kernel_rfl)) ?_
     have hz122:=bc5 BK241
     have p255 : 0 ≤ (t254 : Int):=of_decide_eq_true (by first | (with_reducible assumption) | assumption)
     have q255 : t254 < (x242002_2.length : Int):=of_decide_eq_true (by first | (with_reducible assumption) | assumption)
     obtain ⟨ad255,e255,hx255_0,hx255_1,hx255_2,hx255_3,hx255_4,hx255_5⟩:=at_T127 (Kd.R_reads' HO_242002.out).2.2 t254 p255 q255
     cases e255
     replace p255:=eq_true p255
     replace q255:=eq_true q255
     try go_wp2_with (first | ((with_reducible refine gate_dst (N:=9) rfl ?_);(try (refine gate_guard (by rfl) ?_;dsimp only));refine box_event ?hg (N:=9) ?hd (cs:=#[.int .i64 0,.int .i64 0,.int .i64 0,.int .i64 0,.int .i64 0,.int .i64 0]) (t:=127) ?hr ?_;(case hd=>rfl);(case hg=>rfl);(case hr=>first | (go_simp;done) | (go_simp;rfl));intro gb256 hg w123 hbox hb;have n_ : _∧_∧_∧_∧_∧_∧_∧_∧_∧_∧_∧_∧_∧_∧_∧_∧_∧_∧_∧_:=⟨ka HO_242000 hb,ka HO_242001 hb,ak (Kd.R_below (Kd.R_elderB (rr HO_242002.out) gb256 (Nat.le_of_eq hg.symm)) hb),ka HO_242004 hb,kb BK225 hb,kb BK226 hb,kb BK227 hb,kb BK241 hb,kh HB hb,ak (hbox),kz HB hg,kz HB hg,nl BK225 hg,ng BK225 hg,nl BK226 hg,ng BK226 hg,nl BK227 hg,ng BK227 hg,nl BK241 hg,ng BK241 hg⟩;clear HO_242000 HO_242001 HO_242002 HO_242004 BK225 BK226 BK227 BK241 HB hb hbox hg;obtain ⟨HO_242000,HO_242001,HO_242002,HO_242004,BK225,BK226,BK227,BK241,HB,BK256,GW256,GE256,NB225_256,NB256_225,NB226_256,NB256_226,NB227_256,NB256_227,NB241_256,NB256_241⟩:=n_;have hnb124:=NB256_225.out;have hnc124:=NB225_256.out;have hnb125:=NB256_226.out;have hnc125:=NB226_256.out;have hnb126:=NB256_227.out;have hnc126:=NB227_256.out;have hnb127:=NB256_241.out;have hnc127:=NB241_256.out;have hcz128_0 : w123.cell? ⟨gb256,0,none⟩ = some (.int .i64 0):=(blk_cell BK256.out 0).trans rfl;have hcz128_1 : w123.cell? ⟨gb256,1,none⟩ = some (.int .i64 0):=(blk_cell BK256.out 1).trans rfl;have hcz128_2 : w123.cell? ⟨gb256,2,none⟩ = some (.int .i64 0):=(blk_cell BK256.out 2).trans rfl;have hcz128_3 : w123.cell? ⟨gb256,3,none⟩ = some (.int .i64 0):=(blk_cell BK256.out 3).trans rfl;have hcz128_4 : w123.cell? ⟨gb256,4,none⟩ = some (.int .i64 0):=(blk_cell BK256.out 4).trans rfl;have hcz128_5 : w123.cell? ⟨gb256,5,none⟩ = some (.int .i64 0):=(blk_cell BK256.out 5).trans rfl;have hfz128_0:=blk_frozen BK256.out 0;have hfz128_1:=blk_frozen BK256.out 1;have hfz128_2:=blk_frozen BK256.out 2;have hfz128_3:=blk_frozen BK256.out 3;have hfz128_4:=blk_frozen BK256.out 4;have hfz128_5:=blk_frozen BK256.out 5))
     have n0_ : Aside0 (Kd.R k134 134 ((((((w123.setCell ⟨gb256,0,none⟩ (.int .i64 ((rd_T127 x242002_2 t254).f0))).setCell ⟨gb256,1,none⟩ (.int .i64 ((rd_T127 x242002_2 t254).f1))).setCell ⟨gb256,2,none⟩ (.int .i64 ((rd_T127 x242002_2 t254).f2.f0))).setCell ⟨gb256,3,none⟩ (.int .i64 ((rd_T127 x242002_2 t254).f2.f1))).setCell ⟨gb256,4,none⟩ (.int .i64 ((rd_T127 x242002_2 t254).f2.f2))).setCell ⟨gb256,5,none⟩ (.int .i64 ((rd_T127 x242002_2 t254).f2.f3))) w.heap.size (fun _=>True) (.slice Ao117 x242000_2.length co117) x242000_2):=⟨rfa HO_242000⟩
     have n1_ : Aside0 (Kd.R (Kd.int .i64) 3 ((((((w123.setCell ⟨gb256,0,none⟩ (.int .i64 ((rd_T127 x242002_2 t254).f0))).setCell ⟨gb256,1,none⟩ (.int .i64 ((rd_T127 x242002_2 t254).f1))).setCell ⟨gb256,2,none⟩ (.int .i64 ((rd_T127 x242002_2 t254).f2.f0))).setCell ⟨gb256,3,none⟩ (.int .i64 ((rd_T127 x242002_2 t254).f2.f1))).setCell ⟨gb256,4,none⟩ (.int .i64 ((rd_T127 x242002_2 t254).f2.f2))).setCell ⟨gb256,5,none⟩ (.int .i64 ((rd_T127 x242002_2 t254).f2.f3))) w.heap.size (fun k_=>some k_ ≠ (u242004 : Value).ownBlock) (.slice (some ad253) x242001_2.length co119) x242001_2):=⟨rfa HO_242001⟩
     have n2_ : Aside0 (Kd.R k127 127 ((((((w123.setCell ⟨gb256,0,none⟩ (.int .i64 ((rd_T127 x242002_2 t254).f0))).setCell ⟨gb256,1,none⟩ (.int .i64 ((rd_T127 x242002_2 t254).f1))).setCell ⟨gb256,2,none⟩ (.int .i64 ((rd_T127 x242002_2 t254).f2.f0))).setCell ⟨gb256,3,none⟩ (.int .i64 ((rd_T127 x242002_2 t254).f2.f1))).setCell ⟨gb256,4,none⟩ (.int .i64 ((rd_T127 x242002_2 t254).f2.f2))).setCell ⟨gb256,5,none⟩ (.int .i64 ((rd_T127 x242002_2 t254).f2.f3))) w.heap.size (fun k_=>k_ ≠ gb256) (.slice (some ad255) x242002_2.length co120) x242002_2):=⟨by (with_reducible repeat (first | apply Kd.R_alloc | apply Kd.R_drewN | apply Kd.R_drew));exact Kd.R_mono (Kd.R_far (p:=⟨gb256,5,none⟩) (Kd.R_far (p:=⟨gb256,4,none⟩) (Kd.R_far (p:=⟨gb256,3,none⟩) (Kd.R_far (p:=⟨gb256,2,none⟩) (Kd.R_far (p:=⟨gb256,1,none⟩) (Kd.R_far (p:=⟨gb256,0,none⟩) (Kd.R_mono HO_242002.out (fun k_ hk=>(⟨hk,hk.2⟩ : _∧k_ ≠ gb256))) (fun _ hk=>hk.2) (.int .i64 ((rd_T127 x242002_2 t254).f0))) (fun _ hk=>hk.2) (.int .i64 ((rd_T127 x242002_2 t254).f1))) (fun _ hk=>hk.2) (.int .i64 ((rd_T127 x242002_2 t254).f2.f0))) (fun _ hk=>hk.2) (.int .i64 ((rd_T127 x242002_2 t254).f2.f1))) (fun _ hk=>hk.2) (.int .i64 ((rd_T127 x242002_2 t254).f2.f2))) (fun _ hk=>hk.2) (.int .i64 ((rd_T127 x242002_2 t254).f2.f3))) (fun _ hk=>hk.1.2)⟩
     have n3_ : Aside0 (Kd.R (Kd.int .i64) 3 ((((((w123.setCell ⟨gb256,0,none⟩ (.int .i64 ((rd_T127 x242002_2 t254).f0))).setCell ⟨gb256,1,none⟩ (.int .i64 ((rd_T127 x242002_2 t254).f1))).setCell ⟨gb256,2,none⟩ (.int .i64 ((rd_T127 x242002_2 t254).f2.f0))).setCell ⟨gb256,3,none⟩ (.int .i64 ((rd_T127 x242002_2 t254).f2.f1))).setCell ⟨gb256,4,none⟩ (.int .i64 ((rd_T127 x242002_2 t254).f2.f2))).setCell ⟨gb256,5,none⟩ (.int .i64 ((rd_T127 x242002_2 t254).f2.f3))) w.heap.size (fun k_=>some k_ ≠ (.slice (some ad253) x242001_2.length co119 : Value).ownBlock) u242004 x242004_2):=⟨rfa HO_242004⟩
     have n4_ : Aside0 (((((((w123.setCell ⟨gb256,0,none⟩ (.int .i64 ((rd_T127 x242002_2 t254).f0))).setCell ⟨gb256,1,none⟩ (.int .i64 ((rd_T127 x242002_2 t254).f1))).setCell ⟨gb256,2,none⟩ (.int .i64 ((rd_T127 x242002_2 t254).f2.f0))).setCell ⟨gb256,3,none⟩ (.int .i64 ((rd_T127 x242002_2 t254).f2.f1))).setCell ⟨gb256,4,none⟩ (.int .i64 ((rd_T127 x242002_2 t254).f2.f2))).setCell ⟨gb256,5,none⟩ (.int .i64 ((rd_T127 x242002_2 t254).f2.f3))).heap[gb225]? = some (.cells #[.slice A0_0 l0_0.length c0_0,.slice (some ad243) l0_1.length c0_1,.slice A0_2 l0_2.length c0_2,.int .i64 a0_3,.slice A0_4 l0_4.length c0_4] 51 (0,0))):=⟨by (with_reducible repeat (first | refine blk_drewN ?_ _ | refine blk_drew ?_ | refine blk_alloc ?_ _));refine blk_far ?_ NB225_256.out _;(with_reducible repeat (first | refine blk_drewN ?_ _ | refine blk_drew ?_ | refine blk_alloc ?_ _));refine blk_far ?_ NB225_256.out _;(with_reducible repeat (first | refine blk_drewN ?_ _ | refine blk_drew ?_ | refine blk_alloc ?_ _));refine blk_far ?_ NB225_256.out _;(with_reducible repeat (first | refine blk_drewN ?_ _ | refine blk_drew ?_ | refine blk_alloc ?_ _));refine blk_far ?_ NB225_256.out _;(with_reducible repeat (first | refine blk_drewN ?_ _ | refine blk_drew ?_ | refine blk_alloc ?_ _));refine blk_far ?_ NB225_256.out _;(with_reducible repeat (first | refine blk_drewN ?_ _ | refine blk_drew ?_ | refine blk_alloc ?_ _));refine blk_far ?_ NB225_256.out _;(with_reducible repeat (first | refine blk_drewN ?_ _ | refine blk_drew ?_ | refine blk_alloc ?_ _));exact BK225.out⟩
     have n5_ : Aside0 (((((((w123.setCell ⟨gb256,0,none⟩ (.int .i64 ((rd_T127 x242002_2 t254).f0))).setCell ⟨gb256,1,none⟩ (.int .i64 ((rd_T127 x242002_2 t254).f1))).setCell ⟨gb256,2,none⟩ (.int .i64 ((rd_T127 x242002_2 t254).f2.f0))).setCell ⟨gb256,3,none⟩ (.int .i64 ((rd_T127 x242002_2 t254).f2.f1))).setCell ⟨gb256,4,none⟩ (.int .i64 ((rd_T127 x242002_2 t254).f2.f2))).setCell ⟨gb256,5,none⟩ (.int .i64 ((rd_T127 x242002_2 t254).f2.f3))).heap[gb226]? = some (.cells #[.int .i64 a1_0,.int .i64 a1_1,.int .i64 a1_2,.int .i64 a1_3,.int .i64 a1_4,.int .i64 a1_5,.int .i64 a1_6] 36 (0,0))):=⟨by (with_reducible repeat (first | refine blk_drewN ?_ _ | refine blk_drew ?_ | refine blk_alloc ?_ _));refine blk_far ?_ NB226_256.out _;(with_reducible repeat (first | refine blk_drewN ?_ _ | refine blk_drew ?_ | refine blk_alloc ?_ _));refine blk_far ?_ NB226_256.out _;(with_reducible repeat (first | refine blk_drewN ?_ _ | refine blk_drew ?_ | refine blk_alloc ?_ _));refine blk_far ?_ NB226_256.out _;(with_reducible repeat (first | refine blk_drewN ?_ _ | refine blk_drew ?_ | refine blk_alloc ?_ _));refine blk_far ?_ NB226_256.out _;(with_reducible repeat (first | refine blk_drewN ?_ _ | refine blk_drew ?_ | refine blk_alloc ?_ _));refine blk_far ?_ NB226_256.out _;(with_reducible repeat (first | refine blk_drewN ?_ _ | refine blk_drew ?_ | refine blk_alloc ?_ _));refine blk_far ?_ NB226_256.out _;(with_reducible repeat (first | refine blk_drewN ?_ _ | refine blk_drew ?_ | refine blk_alloc ?_ _));exact BK226.out⟩
     have n6_ : Aside0 (((((((w123.setCell ⟨gb256,0,none⟩ (.int .i64 ((rd_T127 x242002_2 t254).f0))).setCell ⟨gb256,1,none⟩ (.int .i64 ((rd_T127 x242002_2 t254).f1))).setCell ⟨gb256,2,none⟩ (.int .i64 ((rd_T127 x242002_2 t254).f2.f0))).setCell ⟨gb256,3,none⟩ (.int .i64 ((rd_T127 x242002_2 t254).f2.f1))).setCell ⟨gb256,4,none⟩ (.int .i64 ((rd_T127 x242002_2 t254).f2.f2))).setCell ⟨gb256,5,none⟩ (.int .i64 ((rd_T127 x242002_2 t254).f2.f3))).heap[gb227]? = some (.cells #[.slice none 0 0,.slice none 0 0,.slice none 0 0,.int .i64 0,.slice none 0 0] 51 (0,0))):=⟨by (with_reducible repeat (first | refine blk_drewN ?_ _ | refine blk_drew ?_ | refine blk_alloc ?_ _));refine blk_far ?_ NB227_256.out _;(with_reducible repeat (first | refine blk_drewN ?_ _ | refine blk_drew ?_ | refine blk_alloc ?_ _));refine blk_far ?_ NB227_256.out _;(with_reducible repeat (first | refine blk_drewN ?_ _ | refine blk_drew ?_ | refine blk_alloc ?_ _));refine blk_far ?_ NB227_256.out _;(with_reducible repeat (first | refine blk_drewN ?_ _ | refine blk_drew ?_ | refine blk_alloc ?_ _));refine blk_far ?_ NB227_256.out _;(with_reducible repeat (first | refine blk_drewN ?_ _ | refine blk_drew ?_ | refine blk_alloc ?_ _));refine blk_far ?_ NB227_256.out _;(with_reducible repeat (first | refine blk_drewN ?_ _ | refine blk_drew ?_ | refine blk_alloc ?_ _));refine blk_far ?_ NB227_256.out _;(with_reducible repeat (first | refine blk_drewN ?_ _ | refine blk_drew ?_ | refine blk_alloc ?_ _));exact BK227.out⟩
     have n7_ : Aside0 (((((((w123.setCell ⟨gb256,0,none⟩ (.int .i64 ((rd_T127 x242002_2 t254).f0))).setCell ⟨gb256,1,none⟩ (.int .i64 ((rd_T127 x242002_2 t254).f1))).setCell ⟨gb256,2,none⟩ (.int .i64 ((rd_T127 x242002_2 t254).f2.f0))).setCell ⟨gb256,3,none⟩ (.int .i64 ((rd_T127 x242002_2 t254).f2.f1))).setCell ⟨gb256,4,none⟩ (.int .i64 ((rd_T127 x242002_2 t254).f2.f2))).setCell ⟨gb256,5,none⟩ (.int .i64 ((rd_T127 x242002_2 t254).f2.f3))).heap[gb241]? = some (.cells #[.slice Ao117 x242000_2.length co117,.slice (some ad253) x242001_2.length co119,.slice (some ad255) x242002_2.length co120,.int .i64 t237,u242004] 51 (0,0))):=⟨by (with_reducible repeat (first | refine blk_drewN ?_ _ | refine blk_drew ?_ | refine blk_alloc ?_ _));refine blk_far ?_ NB241_256.out _;(with_reducible repeat (first | refine blk_drewN ?_ _ | refine blk_drew ?_ | refine blk_alloc ?_ _));refine blk_far ?_ NB241_256.out _;(with_reducible repeat (first | refine blk_drewN ?_ _ | refine blk_drew ?_ | refine blk_alloc ?_ _));refine blk_far ?_ NB241_256.out _;(with_reducible repeat (first | refine blk_drewN ?_ _ | refine blk_drew ?_ | refine blk_alloc ?_ _));refine blk_far ?_ NB241_256.out _;(with_reducible repeat (first | refine blk_drewN ?_ _ | refine blk_drew ?_ | refine blk_alloc ?_ _));refine blk_far ?_ NB241_256.out _;(with_reducible repeat (first | refine blk_drewN ?_ _ | refine blk_drew ?_ | refine blk_alloc ?_ _));refine blk_far ?_ NB241_256.out _;(with_reducible repeat (first | refine blk_drewN ?_ _ | refine blk_drew ?_ | refine blk_alloc ?_ _));exact BK241.out⟩
     have n8_ : Aside0 (((((((w123.setCell ⟨gb256,0,none⟩ (.int .i64 ((rd_T127 x242002_2 t254).f0))).setCell ⟨gb256,1,none⟩ (.int .i64 ((rd_T127 x242002_2 t254).f1))).setCell ⟨gb256,2,none⟩ (.int .i64 ((rd_T127 x242002_2 t254).f2.f0))).setCell ⟨gb256,3,none⟩ (.int .i64 ((rd_T127 x242002_2 t254).f2.f1))).setCell ⟨gb256,4,none⟩ (.int .i64 ((rd_T127 x242002_2 t254).f2.f2))).setCell ⟨gb256,5,none⟩ (.int .i64 ((rd_T127 x242002_2 t254).f2.f3))).heap[gb256]? = some (.cells #[.int .i64 ((rd_T127 x242002_2 t254).f0),.int .i64 ((rd_T127 x242002_2 t254).f1),.int .i64 ((rd_T127 x242002_2 t254).f2.f0),.int .i64 ((rd_T127 x242002_2 t254).f2.f1),.int .i64 ((rd_T127 x242002_2 t254).f2.f2),.int .i64 ((rd_T127 x242002_2 t254).f2.f3)] 127 (0,0))):=⟨by (with_reducible repeat (first | refine blk_drewN ?_ _ | refine blk_drew ?_ | refine blk_alloc ?_ _));refine blk_put (cs:=#[.int .i64 ((rd_T127 x242002_2 t254).f0),.int .i64 ((rd_T127 x242002_2 t254).f1),.int .i64 ((rd_T127 x242002_2 t254).f2.f0),.int .i64 ((rd_T127 x242002_2 t254).f2.f1),.int .i64 ((rd_T127 x242002_2 t254).f2.f2),.int .i64 0]) ?_ 5 _ rfl;(with_reducible repeat (first | refine blk_drewN ?_ _ | refine blk_drew ?_ | refine blk_alloc ?_ _));refine blk_put (cs:=#[.int .i64 ((rd_T127 x242002_2 t254).f0),.int .i64 ((rd_T127 x242002_2 t254).f1),.int .i64 ((rd_T127 x242002_2 t254).f2.f0),.int .i64 ((rd_T127 x242002_2 t254).f2.f1),.int .i64 0,.int .i64 0]) ?_ 4 _ rfl;(with_reducible repeat (first | refine blk_drewN ?_ _ | refine blk_drew ?_ | refine blk_alloc ?_ _));refine blk_put (cs:=#[.int .i64 ((rd_T127 x242002_2 t254).f0),.int .i64 ((rd_T127 x242002_2 t254).f1),.int .i64 ((rd_T127 x242002_2 t254).f2.f0),.int .i64 0,.int .i64 0,.int .i64 0]) ?_ 3 _ rfl;(with_reducible repeat (first | refine blk_drewN ?_ _ | refine blk_drew ?_ | refine blk_alloc ?_ _));refine blk_put (cs:=#[.int .i64 ((rd_T127 x242002_2 t254).f0),.int .i64 ((rd_T127 x242002_2 t254).f1),.int .i64 0,.int .i64 0,.int .i64 0,.int .i64 0]) ?_ 2 _ rfl;(with_reducible repeat (first | refine blk_drewN ?_ _ | refine blk_drew ?_ | refine blk_alloc ?_ _));refine blk_put (cs:=#[.int .i64 ((rd_T127 x242002_2 t254).f0),.int .i64 0,.int .i64 0,.int .i64 0,.int .i64 0,.int .i64 0]) ?_ 1 _ rfl;(with_reducible repeat (first | refine blk_drewN ?_ _ | refine blk_drew ?_ | refine blk_alloc ?_ _));refine blk_put (cs:=#[.int .i64 0,.int .i64 0,.int .i64 0,.int .i64 0,.int .i64 0,.int .i64 0]) ?_ 0 _ rfl;(with_reducible repeat (first | refine blk_drewN ?_ _ | refine blk_drew ?_ | refine blk_alloc ?_ _));exact BK256.out⟩
     have n9_ : Aside0 (Below w.heap.size w ((((((w123.setCell ⟨gb256,0,none⟩ (.int .i64 ((rd_T127 x242002_2 t254).f0))).setCell ⟨gb256,1,none⟩ (.int .i64 ((rd_T127 x242002_2 t254).f1))).setCell ⟨gb256,2,none⟩ (.int .i64 ((rd_T127 x242002_2 t254).f2.f0))).setCell ⟨gb256,3,none⟩ (.int .i64 ((rd_T127 x242002_2 t254).f2.f1))).setCell ⟨gb256,4,none⟩ (.int .i64 ((rd_T127 x242002_2 t254).f2.f2))).setCell ⟨gb256,5,none⟩ (.int .i64 ((rd_T127 x242002_2 t254).f2.f3)))):=⟨rbx HB⟩
     (try clear HO_242000)
     (try clear HO_242001)
     (try clear HO_242002)
     (try clear HO_242004)
     (try clear BK225)
     (try clear BK226)
     (try clear BK227)
     (try clear BK241)
     (try clear BK256)
     (try clear HB)
     generalize ((((((w123.setCell ⟨gb256,0,none⟩ (.int .i64 ((rd_T127 x242002_2 t254).f0))).setCell ⟨gb256,1,none⟩ (.int .i64 ((rd_T127 x242002_2 t254).f1))).setCell ⟨gb256,2,none⟩ (.int .i64 ((rd_T127 x242002_2 t254).f2.f0))).setCell ⟨gb256,3,none⟩ (.int .i64 ((rd_T127 x242002_2 t254).f2.f1))).setCell ⟨gb256,4,none⟩ (.int .i64 ((rd_T127 x242002_2 t254).f2.f2))).setCell ⟨gb256,5,none⟩ (.int .i64 ((rd_T127 x242002_2 t254).f2.f3))) = w129 at n0_ n1_ n2_ n3_ n4_ n5_ n6_ n7_ n8_ n9_ ⊢
     have HO_242000:=n0_
     have HO_242001:=n1_
     have HO_242002:=n2_
     have HO_242004:=n3_
     have BK225:=n4_
     have BK226:=n5_
     have BK227:=n6_
     have BK241:=n7_
     have BK256:=n8_
     have HB:=n9_
     clear n0_ n1_ n2_ n3_ n4_ n5_ n6_ n7_ n8_ n9_
     have n_ : _∧_∧_∧_∧_∧_∧_∧_∧_∧_:=⟨ak (Kd.R_drew HO_242000.out),ak (Kd.R_drew HO_242001.out),ak (Kd.R_drew HO_242002.out),ak (Kd.R_drew HO_242004.out),ak (blk_drew BK225.out),ak (blk_drew BK226.out),ak (blk_drew BK227.out),ak (blk_drew BK241.out),ak (blk_drew BK256.out),ak (below_drew1 HB.out)⟩
     clear HO_242000 HO_242001 HO_242002 HO_242004 BK225 BK226 BK227 BK241 BK256 HB
     obtain ⟨HO_242000,HO_242001,HO_242002,HO_242004,BK225,BK226,BK227,BK241,BK256,HB⟩:=n_
     have q131 : (t254 : Int) ≤ ((x242002_2.length : Int) : Int):=of_decide_eq_true (by first | (with_reducible assumption) | assumption)
     obtain ⟨i0131,hi0131,_,hsz131,_⟩:=info_parts info127
     have hroom131 : x242002_2.length ≤ co120:=(Kd.R_reads' HO_242002.out).2.1
     have hC131 : Kd.C k127 _ (some ad255) x242002_2.length x242002_2:=(Kd.R_reads' HO_242002.out).2.2
     have hcut131:=cut_to (P:=Try.prog) 49 127 .i64 Try.underlying49 hi0131 (some ad255) x242002_2.length co120 t254 (of_decide_eq_true (by first | (with_reducible assumption) | assumption)) q131 hroom131
     have hr131:=Kd.C_take (m:=(t254 : Int).toNat) hC131 (by omega)
     have hy131 : y257.length = (t254 : Int).toNat:=(by rw [Ny257.out,List.length_take];omega)
     rw [← Ny257.out] at hr131
     rw [← hy131] at hcut131
     have HR260:=ak hr131
     have HC260:=ak (show y257.length ≤ co120 from by omega)
     clear hr131 hC131 hroom131 hi0131 hsz131
     have KY131:=ak hy131
     clear hy131
     have KL131:=ak (show (t254 : Int).toNat ≤ x242002_2.length from by omega)
     replace q131:=eq_true q131
     have q132 : ((ji108) : Int) ≤ ((x242002_2.length : Int) : Int):=of_decide_eq_true (by first | (with_reducible assumption) | assumption)
     obtain ⟨i0132,hi0132,_,hsz132,_⟩:=info_parts info127
     have hroom132 : x242002_2.length ≤ co120:=(Kd.R_reads' HO_242002.out).2.1
     have hC132 : Kd.C k127 _ (some ad255) x242002_2.length x242002_2:=(Kd.R_reads' HO_242002.out).2.2
     have q0132 : (0 : Int) ≤ ((ji108) : Int):=of_decide_eq_true (by first | (with_reducible assumption) | assumption)
     have hcut132:=cut_from (P:=Try.prog) 49 127 .i64 Try.underlying49 hi0132 6 hsz132 (some ad255) x242002_2.length co120 (ji108) q0132 q132
     have hr132:=Kd.C_drop (m:=((ji108) : Int).toNat) (c:=co120) hC132 (by omega) hroom132
     obtain ⟨A132,hA132⟩ : ∃ A1,A1 = (if co120 = ((ji108) : Int).toNat then (some ad255) else ((some ad255) : Option Addr).map (·.add (((ji108) : Int).toNat * 6))):=⟨_,rfl⟩
     obtain ⟨c132,hc132⟩ : ∃ c1,c1 = co120 - ((ji108) : Int).toNat:=⟨_,rfl⟩
     have hy132 : y261.length = x242002_2.length - ((ji108) : Int).toNat:=(by rw [Ny261.out,List.length_drop] <;> omega)
     rw [show (x242002_2).drop ((ji108) : Int).toNat = y261 from Ny261.out.symm] at hr132
     replace hr132 : Kd.C k127 _ A132 y261.length y261:=(by rw [hA132];exact hr132)
     rw [← hy132,← hA132,← hc132] at hcut132
     have HR264:=ak hr132
     have HC264:=ak (show y261.length ≤ c132 from by rw [hy132,hc132];exact Nat.sub_le_sub_right hroom132 _)
     clear hr132 hC132 hroom132 hi0132 hsz132 hc132
     have KY132:=ak hy132
     have KA132:=ak hA132
     clear hy132 hA132
     have KL132:=ak (show ((ji108) : Int).toNat ≤ x242002_2.length from by omega)
     replace q132:=eq_true q132
     obtain ⟨go134,co134,eo134,gb134,gl134,cl134,HG134⟩:=Kd.R_form HO_242002.out (by have hj_ : 0 ≤ (t254 : Int):=of_decide_eq_true (by first | (with_reducible assumption) | assumption);have hl_ : (ji108 : Int) ≤ (x242002_2.length : Int):=of_decide_eq_true (by first | (with_reducible assumption) | assumption);have hh_ : (t254 : Int) ≤ (x242002_2.length : Int):=of_decide_eq_true (by first | (with_reducible assumption) | assumption);rw [← hji108] at hl_;unfold wrap64 at hl_;omega)
     (first | cases eo134 | (injection eo134 with ea_ en_ ec_;(first | subst ea_ | (injection ea_ with ea_;subst ea_));subst ec_;clear en_))
     have GB134:=ak gb134
     have GG134:=ak HG134
     clear gb134 gl134 HG134
     (first | simp only [add_plain] at hx255_0 | skip)
     (first | simp only [add_plain] at hx255_1 | skip)
     (first | simp only [add_plain] at hx255_2 | skip)
     (first | simp only [add_plain] at hx255_3 | skip)
     (first | simp only [add_plain] at hx255_4 | skip)
     (first | simp only [add_plain] at hx255_5 | skip)
     refine start_ (n:=12) (S:=fun w'=>w'.cell? ⟨gb241,0,none⟩ = some (.slice Ao117 x242000_2.length co117)∧w'.cell? ⟨gb241,1,none⟩ = some (.slice (some ad253) x242001_2.length co119)∧w'.cell? ⟨gb241,2,none⟩ = some (.slice (some ⟨go134,0,none⟩) x242002_2.length co120)∧w'.cell? ⟨gb241,3,none⟩ = some (.int .i64 t237)∧w'.cell? ⟨gb241,4,none⟩ = some (u242004)) (ds:=[11]) #[false,false,false,false,false,false,false,false,false,false,false,false] (by kernel_rfl) rfl rfl ⟨(blk_cell BK241.out 0).trans rfl,(blk_cell BK241.out 1).trans rfl,(blk_cell BK241.out 2).trans rfl,(blk_cell BK241.out 3).trans rfl,(blk_cell BK241.out 4).trans rfl⟩ (fun hHeld=>?_);refine with_tabW impl_Kept.tab15 impl_Kept.bits15 (fun HT_ HW_=>?_)
     generalize w129.drew = w130 at HO_242000 HO_242001 HO_242002 HO_242004 BK225 BK226 BK227 BK241 BK256 HB GG134 HR260 HR264 hx255_0 hx255_1 hx255_2 hx255_3 hx255_4 hx255_5 hHeld ⊢
     refine pure_ (i:=0) (N:=some 127) (v:=?_) (a':=?_) #[true,false,false,false,false,false,false,false,false,false,false,false] rfl rfl (any_of HT_.out (by kernel_rfl)) (fun _ _ _ h=>h) (Or.inl ⟨by rfl,?_⟩) ?_ ?_
     rotate_left
     ·intro w'
      go_simp
      with_reducible rfl
     rotate_left
     ·simp only [Act.put,List.setIfInBounds_toArray,List.set_cons_zero,List.set_cons_succ,i64_w,i32_w]
      rfl
     refine pure_ (i:=2) (N:=some 129) (v:=?_) (a':=?_) #[true,false,true,false,false,false,false,false,false,false,false,false] rfl rfl (any_of HT_.out (by kernel_rfl)) (fun _ _ _ h=>h) (Or.inl ⟨by rfl,?_⟩) ?_ ?_
     rotate_left
     ·intro w'
      go_simp
      with_reducible rfl
     rotate_left
     ·simp only [Act.put,List.setIfInBounds_toArray,List.set_cons_zero,List.set_cons_succ,i64_w,i32_w]
      rfl
     refine pure_ (i:=4) (N:=some 131) (v:=?_) (a':=?_) #[true,false,true,false,true,false,false,false,false,false,false,false] rfl rfl (any_of HT_.out (by kernel_rfl)) (fun _ _ _ h=>h) (Or.inl ⟨by rfl,?_⟩) ?_ ?_
     rotate_left
     ·intro w'
      go_simp
      with_reducible rfl
     rotate_left
     ·simp only [Act.put,List.setIfInBounds_toArray,List.set_cons_zero,List.set_cons_succ,i64_w,i32_w]
      rfl
     refine pure_ (i:=6) (N:=some 133) (v:=?_) (a':=?_) #[true,false,true,false,true,false,true,false,false,false,false,false] rfl rfl (any_of HT_.out (by kernel_rfl)) (fun _ _ _ h=>h) (Or.inl ⟨by rfl,?_⟩) ?_ ?_
     rotate_left
     ·intro w'
      go_simp
      with_reducible rfl
     rotate_left
     ·simp only [Act.put,List.setIfInBounds_toArray,List.set_cons_zero,List.set_cons_succ,i64_w,i32_w]
      rfl
     refine pure_ (i:=7) (N:=some 134) (v:=?_) (a':=?_) #[true,false,true,false,true,false,true,true,false,false,false,false] rfl rfl (any_of HT_.out (by kernel_rfl)) (fun _ _ _ h=>h) (Or.inl ⟨by rfl,?_⟩) ?_ ?_
     rotate_left
     ·intro w'
      go_simp
      with_reducible rfl
     rotate_left
     ·simp only [Act.put,List.setIfInBounds_toArray,List.set_cons_zero,List.set_cons_succ,i64_w,i32_w]
      rfl
     refine take_ (i:=1) (N:=some 128) (v:=?_) (a':=?_) #[true,true,true,false,true,false,true,true,false,false,false,false] rfl rfl (take_ofW HT_.out HW_.out (by kernel_rfl)) (fun _ _ _ h=>h) (Or.inl ⟨by rfl,?_⟩) hHeld ?_ ?_
     rotate_left
     ·rintro w' ⟨s0,s1,s2,s3,s4⟩
      go_simp
      with_reducible rfl
     rotate_left
     ·simp only [Act.put,List.setIfInBounds_toArray,List.set_cons_zero,List.set_cons_succ,i64_w,i32_w]
      rfl
     refine pure_ (i:=3) (N:=some 130) (v:=?_) (a':=?_) #[true,true,true,true,true,false,true,true,false,false,false,false] rfl rfl (any_of HT_.out (by kernel_rfl)) (fun _ _ _ h=>h) (Or.inl ⟨by rfl,?_⟩) ?_ ?_
     rotate_left
     ·intro w'
      go_simp
      with_reducible rfl
     rotate_left
     ·simp only [Act.put,List.setIfInBounds_toArray,List.set_cons_zero,List.set_cons_succ,i64_w,i32_w]
      rfl
     refine take_ (i:=5) (N:=some 132) (v:=?_) (a':=?_) #[true,true,true,true,true,true,true,true,false,false,false,false] rfl rfl (take_ofW HT_.out HW_.out (by kernel_rfl)) (fun _ _ _ h=>h) (Or.inl ⟨by rfl,?_⟩) hHeld ?_ ?_
     rotate_left
     ·rintro w' ⟨s0,s1,s2,s3,s4⟩
      go_simp
      with_reducible rfl
     rotate_left
     ·simp only [Act.put,List.setIfInBounds_toArray,List.set_cons_zero,List.set_cons_succ,i64_w,i32_w]
      rfl
     refine pure_ (i:=8) (N:=some 135) (v:=?_) (a':=?_) #[true,true,true,true,true,true,true,true,true,false,false,false] rfl rfl (any_of HT_.out (by kernel_rfl)) (fun _ _ _ h=>h) (Or.inl ⟨by rfl,?_⟩) ?_ ?_
     rotate_left
     ·intro w'
      go_simp
      with_reducible rfl
     rotate_left
     ·simp only [Act.put,List.setIfInBounds_toArray,List.set_cons_zero,List.set_cons_succ,i64_w,i32_w]
      rfl
     refine one_ (i:=9) (N:=some 136) #[true,true,true,true,true,true,true,true,true,true,false,false] rfl rfl (one_of HT_.out (by kernel_rfl)) (by decide) (fun K hK=>?_)
     have hj_ : 0 ≤ (t254 : Int):=of_decide_eq_true (by first | (with_reducible assumption) | assumption)
     have hl_ : (ji108 : Int) ≤ (x242002_2.length : Int):=of_decide_eq_true (by first | (with_reducible assumption) | assumption)
     have hh_ : (t254 : Int) ≤ (x242002_2.length : Int):=of_decide_eq_true (by first | (with_reducible assumption) | assumption)
     have hb_:=(Kd.R_reads' HO_242002.out).2.2.2.1
     have h0_ : (0 : Int) ≤ (ji108 : Int):=of_decide_eq_true (by first | (with_reducible assumption) | assumption)
     have hy1_:=KY131.out
     have hk_ : (ji108 : Int).toNat = y257.length + 1:=(by have hw_ : (ji108 : Int) = t254 + 1:=(by have h00_:=h0_;rw [← hji108] at h00_ ⊢;unfold wrap64 at h00_ ⊢;omega);rw [hw_];omega)
     refine Kd.R_delete_step k127 (w0:=w) w.heap.size (by rfl) (.tmp 130) (.tmp 135) 49 127 rfl Try.underlying49 (by kernel_rfl) (g:=go134) (n:=x242002_2.length) (c:=co120) (k:=y257.length) rfl rfl ?hA ?hm (rr HO_242002.out) ?hk (rb5 GE225.out GE226.out GE227.out GE241.out GE256.out HB.out) (below_size (rb5 GE225.out GE226.out GE227.out GE241.out GE256.out HB.out)) ?_
     (case hA=>have ha_:=KA132.out;rw [hk_] at ha_;exact ha_)
     (case hm=>have ha_:=KY132.out;omega)
     (case hk=>omega)
     intro w133 ho hb hg
     clear hj_ hl_ hh_ hb_ hk_ h0_
     rw [hy1_,← Ny265.out] at ho
     clear hy1_
     have hn_ : x242002_2.length - 1 = y265.length:=(by have:=(Kd.R_reads' ho).1;omega)
     rw [hn_] at ho ⊢
     clear hn_
     have n_ : _∧_∧_∧_∧_∧_∧_∧_∧_∧_:=⟨ak (Kd.R_over' (v:=(.slice (some ⟨go134,0,none⟩) x242002_2.length co120)) (rr HO_242000.out) (Kd.R_typed HO_242002.out) (by decide) hg),ak (Kd.R_over' (v:=(.slice (some ⟨go134,0,none⟩) x242002_2.length co120)) (rr HO_242001.out) (Kd.R_typed HO_242002.out) (by decide) hg),ak (ho),ak (Kd.R_over' (v:=(.slice (some ⟨go134,0,none⟩) x242002_2.length co120)) (rr HO_242004.out) (Kd.R_typed HO_242002.out) (by decide) hg),kg BK225 HO_242002 hg,kg BK226 HO_242002 hg,kg BK227 HO_242002 hg,kg BK241 HO_242002 hg,ak (blk_grown (g:=gb256) (o:=.cells #[.int .i64 ((rd_T127 x242002_2 t254).f0),.int .i64 ((rd_T127 x242002_2 t254).f1),.int .i64 ((rd_T127 x242002_2 t254).f2.f0),.int .i64 ((rd_T127 x242002_2 t254).f2.f1),.int .i64 ((rd_T127 x242002_2 t254).f2.f2),.int .i64 ((rd_T127 x242002_2 t254).f2.f3)] 127 (0,0)) (rk BK256.out) hg (Kd.R_away HO_242002.out (fun _ hk=>hk))),ak (hb)⟩
     clear HO_242000 HO_242001 HO_242002 HO_242004 BK225 BK226 BK227 BK241 BK256 HB ho hb hg
     obtain ⟨HO_242000,HO_242001,HO_242002,HO_242004,BK225,BK226,BK227,BK241,BK256,HB⟩:=n_
     refine hK.out _ _ ⟨(blk_cell BK241.out 0).trans rfl,(blk_cell BK241.out 1).trans rfl,(blk_cell BK241.out 2).trans rfl,(blk_cell BK241.out 3).trans rfl,(blk_cell BK241.out 4).trans rfl⟩ (fun hHeld=>?_)
     clear hK K
     refine norm_ (a':=?_) ?_ ?_
     rotate_left
     ·show Act.put _ (some 136) _ = _
      simp only [Act.put,List.setIfInBounds_toArray,List.set_cons_zero,List.set_cons_succ,i64_w,i32_w]
      rfl
     refine pure_ (i:=10) (N:=some 137) (v:=?_) (a':=?_) #[true,true,true,true,true,true,true,true,true,true,true,false] rfl rfl (any_of HT_.out (by kernel_rfl)) (fun _ _ _ h=>h) (Or.inl ⟨by rfl,?_⟩) ?_ ?_
     rotate_left
     ·intro w'
      go_simp
      with_reducible rfl
     rotate_left
     ·simp only [Act.put,List.setIfInBounds_toArray,List.set_cons_zero,List.set_cons_succ,i64_w,i32_w]
      rfl
     refine last_ (i:=11) (N:=none) #[true,true,true,true,true,true,true,true,true,true,true,true] rfl rfl (one_of HT_.out (by kernel_rfl)) (by decide) (fun K hK=>?_)
     have hs135 : w133.cell? ⟨gb241,2,none⟩ = some (.slice (some ⟨go134,0,none⟩) x242002_2.length co120):=(blk_cell BK241.out 2).trans rfl
     have hfs135:=blk_frozen BK241.out 2
     have hns135_0:=NB225_241.out
     have hns135_1:=NB226_241.out
     have hns135_2:=NB227_241.out
     have hns135_4:=NB256_241.out
     have hms135_0:=NB241_225.out
     have hms135_1:=NB241_226.out
     have hms135_2:=NB241_227.out
     have hms135_4:=NB241_256.out
     refine skip_ (w1:=?_) (by rfl) rfl ?_ ?_
     rotate_left
     ·go_simp
      rfl
     refine hK.out _ _ ?_
     clear hK K
     refine done_ (done_of HT_.out (by kernel_rfl)) ?_
     have hz136:=bc5 BK241
     have hz137:=bc6 BK256
     try go_wp2_with (first | ((with_reducible refine gate_builtin (b:=.append) (xs:=#[.tmp 139,.tmp 147]) rfl ?_);(try (refine gate_guard (by rfl) ?_;dsimp only));at_builtin;refine Kd.R_append k134 (w0:=w) w.heap.size rfl (.tmp 139) (.tmp 147) 48 134 (.agg #[(.int .i64 0),(.int .i64 0),(.int .i64 0),(.int .i64 0),(.int .i64 0),(.int .i64 0)]) 48 rfl Try.underlying48 info134 rfl (by decide) (by omega) (.slice Ao117 x242000_2.length co117) x242000_2 (⟨(rd_T127 x242002_2 t254).f0,(rd_T127 x242002_2 t254).f1,(⟨(rd_T127 x242002_2 t254).f2.f0,(rd_T127 x242002_2 t254).f2.f1,(rd_T127 x242002_2 t254).f2.f2,(rd_T127 x242002_2 t254).f2.f3⟩ : S34)⟩ : S134) [.int .i64 ((rd_T127 x242002_2 t254).f0),.int .i64 ((rd_T127 x242002_2 t254).f1),.int .i64 ((rd_T127 x242002_2 t254).f2.f0),.int .i64 ((rd_T127 x242002_2 t254).f2.f1),.int .i64 ((rd_T127 x242002_2 t254).f2.f2),.int .i64 ((rd_T127 x242002_2 t254).f2.f3)] (fun _=>True) (fun _=>False) rfl (by first | (go_simp;done) | (go_simp;rfl)) ?aP (fun _ hk=>hk.elim) ?aF ?aO ?aB ?aS ?aL ?_;(case aP=>exact k134_mkM _ _ _ (⟨(rd_T127 x242002_2 t254).f0,(rd_T127 x242002_2 t254).f1,(⟨(rd_T127 x242002_2 t254).f2.f0,(rd_T127 x242002_2 t254).f2.f1,(rd_T127 x242002_2 t254).f2.f2,(rd_T127 x242002_2 t254).f2.f3⟩ : S34)⟩ : S134));(case aB=>exact (rb5 GE225.out GE226.out GE227.out GE241.out GE256.out HB.out));(case aF=>exact (fun _ _=>trivial));(case aO=>exact (rfa HO_242000));(case aS=>exact (below_size (rb5 GE225.out GE226.out GE227.out GE241.out GE256.out HB.out)));(case aL=>have:=LMc111.out;omega);intro v269 w138 ho hb hg hat;rw [← Ny268.out] at ho;have n_ : _∧_∧_∧_∧_∧_∧_∧_∧_∧_:=⟨ak (Kd.R_over' (rfa HO_242001) (Kd.R_typed (rfa HO_242000)) (by decide) hg),ak (Kd.R_over' (rfa HO_242002) (Kd.R_typed (rfa HO_242000)) (by decide) hg),ak (Kd.R_over' (rfa HO_242004) (Kd.R_typed (rfa HO_242000)) (by decide) hg),ak (blk_grown (g:=gb225) (o:=.cells #[.slice A0_0 l0_0.length c0_0,.slice (some ad243) l0_1.length c0_1,.slice A0_2 l0_2.length c0_2,.int .i64 a0_3,.slice A0_4 l0_4.length c0_4] 51 (0,0)) (kq BK225) hg (Kd.R_ne HO_242000.out BK225.out (by decide))),ak (blk_grown (g:=gb226) (o:=.cells #[.int .i64 a1_0,.int .i64 a1_1,.int .i64 a1_2,.int .i64 a1_3,.int .i64 a1_4,.int .i64 a1_5,.int .i64 a1_6] 36 (0,0)) (kq BK226) hg (Kd.R_ne HO_242000.out BK226.out (by decide))),ak (blk_grown (g:=gb227) (o:=.cells #[.slice none 0 0,.slice none 0 0,.slice none 0 0,.int .i64 0,.slice none 0 0] 51 (0,0)) (kq BK227) hg (Kd.R_ne HO_242000.out BK227.out (by decide))),ak (blk_grown (g:=gb241) (o:=.cells #[.slice Ao117 x242000_2.length co117,.slice (some ad253) x242001_2.length co119,.slice (some ⟨go134,0,none⟩) y265.length co120,.int .i64 t237,u242004] 51 (0,0)) (kq BK241) hg (Kd.R_ne HO_242000.out BK241.out (by decide))),ak (blk_grown (g:=gb256) (o:=.cells #[.int .i64 ((rd_T127 x242002_2 t254).f0),.int .i64 ((rd_T127 x242002_2 t254).f1),.int .i64 ((rd_T127 x242002_2 t254).f2.f0),.int .i64 ((rd_T127 x242002_2 t254).f2.f1),.int .i64 ((rd_T127 x242002_2 t254).f2.f2),.int .i64 ((rd_T127 x242002_2 t254).f2.f3)] 127 (0,0)) (kq BK256) hg (Kd.R_ne HO_242000.out BK256.out (by decide))),ak (hb),ak (ho)⟩;clear HO_242001 HO_242002 HO_242004 BK225 BK226 BK227 BK241 BK256 HB HO_242000 ho hb hg hat;obtain ⟨HO_242001,HO_242002,HO_242004,BK225,BK226,BK227,BK241,BK256,HB,HO270⟩:=n_;obtain ⟨Ao139,co139,eo139⟩:=Kd.R_slice HO270.out;subst eo139;have hcz140_0 : w138.cell? ⟨gb241,0,none⟩ = some (.slice Ao117 x242000_2.length co117):=(blk_cell BK241.out 0).trans rfl;have hcz140_1 : w138.cell? ⟨gb241,1,none⟩ = some (.slice (some ad253) x242001_2.length co119):=(blk_cell BK241.out 1).trans rfl;have hcz140_2 : w138.cell? ⟨gb241,2,none⟩ = some (.slice (some ⟨go134,0,none⟩) y265.length co120):=(blk_cell BK241.out 2).trans rfl;have hcz140_3 : w138.cell? ⟨gb241,3,none⟩ = some (.int .i64 t237):=(blk_cell BK241.out 3).trans rfl;have hcz140_4 : w138.cell? ⟨gb241,4,none⟩ = some (u242004):=(blk_cell BK241.out 4).trans rfl;have hfz140_0:=blk_frozen BK241.out 0;have hfz140_1:=blk_frozen BK241.out 1;have hfz140_2:=blk_frozen BK241.out 2;have hfz140_3:=blk_frozen BK241.out 3;have hfz140_4:=blk_frozen BK241.out 4) | ((with_reducible refine gate_store (t:=48) (p:=149) rfl ?_);refine store_event (t:=48) (p:=149) (v:=?vo_w141) (w1:=(w138.setCell ⟨gb241,0,none⟩ (.slice Ao139 y268.length co139))) ?hg ?ho ?hn ?hr ?_;(case ho=>rfl);(case hg=>rfl);(case hn=>rfl);(case hr=>first | (go_simp;done) | (go_simp;rfl));intro w141 hw;have n0_ : Aside0 (Kd.R (Kd.int .i64) 3 w141 w.heap.size (fun k_=>some k_ ≠ (u242004 : Value).ownBlock) (.slice (some ad253) x242001_2.length co119) x242001_2):=⟨(by rw [hw];exact (rfa HO_242001))⟩;have n1_ : Aside0 (Kd.R k127 127 w141 w.heap.size (fun k_=>k_ ≠ gb256) (.slice (some ⟨go134,0,none⟩) y265.length co120) y265):=⟨(by rw [hw];exact (rfa HO_242002))⟩;have n2_ : Aside0 (Kd.R (Kd.int .i64) 3 w141 w.heap.size (fun k_=>some k_ ≠ (.slice (some ad253) x242001_2.length co119 : Value).ownBlock) u242004 x242004_2):=⟨(by rw [hw];exact (rfa HO_242004))⟩;have n3_ : Aside0 (Kd.R k134 134 w141 w.heap.size (fun _=>True) (.slice Ao139 y268.length co139) y268):=⟨(by rw [hw];exact (rfa HO270))⟩;have n4_ : Aside0 (w141.heap[gb225]? = some (.cells #[.slice A0_0 l0_0.length c0_0,.slice (some ad243) l0_1.length c0_1,.slice A0_2 l0_2.length c0_2,.int .i64 a0_3,.slice A0_4 l0_4.length c0_4] 51 (0,0))):=⟨(by rw [hw];exact (kq BK225))⟩;have n5_ : Aside0 (w141.heap[gb226]? = some (.cells #[.int .i64 a1_0,.int .i64 a1_1,.int .i64 a1_2,.int .i64 a1_3,.int .i64 a1_4,.int .i64 a1_5,.int .i64 a1_6] 36 (0,0))):=⟨(by rw [hw];exact (kq BK226))⟩;have n6_ : Aside0 (w141.heap[gb227]? = some (.cells #[.slice none 0 0,.slice none 0 0,.slice none 0 0,.int .i64 0,.slice none 0 0] 51 (0,0))):=⟨(by rw [hw];exact (kq BK227))⟩;have n7_ : Aside0 (w141.heap[gb241]? = some (.cells #[.slice Ao139 y268.length co139,.slice (some ad253) x242001_2.length co119,.slice (some ⟨go134,0,none⟩) y265.length co120,.int .i64 t237,u242004] 51 (0,0))):=⟨(by rw [hw];exact (kq BK241))⟩;have n8_ : Aside0 (w141.heap[gb256]? = some (.cells #[.int .i64 ((rd_T127 x242002_2 t254).f0),.int .i64 ((rd_T127 x242002_2 t254).f1),.int .i64 ((rd_T127 x242002_2 t254).f2.f0),.int .i64 ((rd_T127 x242002_2 t254).f2.f1),.int .i64 ((rd_T127 x242002_2 t254).f2.f2),.int .i64 ((rd_T127 x242002_2 t254).f2.f3)] 127 (0,0))):=⟨(by rw [hw];exact (kq BK256))⟩;have n9_ : Aside0 (Below w.heap.size w w141):=⟨(by rw [hw];exact (rb5 GE225.out GE226.out GE227.out GE241.out GE256.out HB.out))⟩;clear hw HO_242001 HO_242002 HO_242004 HO270 BK225 BK226 BK227 BK241 BK256 HB;have HO_242001:=n0_;have HO_242002:=n1_;have HO_242004:=n2_;have HO270:=n3_;have BK225:=n4_;have BK226:=n5_;have BK227:=n6_;have BK241:=n7_;have BK256:=n8_;have HB:=n9_;clear n0_ n1_ n2_ n3_ n4_ n5_ n6_ n7_ n8_ n9_;have hcz142_0 : w141.cell? ⟨gb241,0,none⟩ = some (.slice Ao139 y268.length co139):=(blk_cell BK241.out 0).trans rfl;have hcz142_1 : w141.cell? ⟨gb241,1,none⟩ = some (.slice (some ad253) x242001_2.length co119):=(blk_cell BK241.out 1).trans rfl;have hcz142_2 : w141.cell? ⟨gb241,2,none⟩ = some (.slice (some ⟨go134,0,none⟩) y265.length co120):=(blk_cell BK241.out 2).trans rfl;have hcz142_3 : w141.cell? ⟨gb241,3,none⟩ = some (.int .i64 t237):=(blk_cell BK241.out 3).trans rfl;have hcz142_4 : w141.cell? ⟨gb241,4,none⟩ = some (u242004):=(blk_cell BK241.out 4).trans rfl;have hfz142_0:=blk_frozen BK241.out 0;have hfz142_1:=blk_frozen BK241.out 1;have hfz142_2:=blk_frozen BK241.out 2;have hfz142_3:=blk_frozen BK241.out 3;have hfz142_4:=blk_frozen BK241.out 4;have hnb143:=NB226_225.out;have hnc143:=NB225_226.out;have hnb144:=NB226_227.out;have hnc144:=NB227_226.out;have hcz145_0 : w141.cell? ⟨gb226,0,none⟩ = some (.int .i64 a1_0):=(blk_cell BK226.out 0).trans rfl;have hcz145_1 : w141.cell? ⟨gb226,1,none⟩ = some (.int .i64 a1_1):=(blk_cell BK226.out 1).trans rfl;have hcz145_2 : w141.cell? ⟨gb226,2,none⟩ = some (.int .i64 a1_2):=(blk_cell BK226.out 2).trans rfl;have hcz145_3 : w141.cell? ⟨gb226,3,none⟩ = some (.int .i64 a1_3):=(blk_cell BK226.out 3).trans rfl;have hcz145_4 : w141.cell? ⟨gb226,4,none⟩ = some (.int .i64 a1_4):=(blk_cell BK226.out 4).trans rfl;have hcz145_5 : w141.cell? ⟨gb226,5,none⟩ = some (.int .i64 a1_5):=(blk_cell BK226.out 5).trans rfl;have hcz145_6 : w141.cell? ⟨gb226,6,none⟩ = some (.int .i64 a1_6):=(blk_cell BK226.out 6).trans rfl;have hfz145_0:=blk_frozen BK226.out 0;have hfz145_1:=blk_frozen BK226.out 1;have hfz145_2:=blk_frozen BK226.out 2;have hfz145_3:=blk_frozen BK226.out 3;have hfz145_4:=blk_frozen BK226.out 4;have hfz145_5:=blk_frozen BK226.out 5;have hfz145_6:=blk_frozen BK226.out 6;have p271 : 0 ≤ (a1_1 : Int):=of_decide_eq_true (by first | (with_reducible assumption) | assumption);have q271 : a1_1 < (x242001_2.length : Int):=of_decide_eq_true (by first | (with_reducible assumption) | assumption);obtain ⟨ad271,e271,hx271_0⟩:=Kd.at_int (Kd.R_reads' HO_242001.out).2.2 a1_1 p271 q271;obtain rfl : ad253 = ad271:=(by injection e271);replace p271:=eq_true p271;replace q271:=eq_true q271;have p112 : 0 ≤ (a1_1 : Int):=of_decide_eq_true (by first | (with_reducible assumption) | assumption);have q112 : (a1_1 : Int) < ((x242001_2.length : Int) : Int):=of_decide_eq_true (by first | (with_reducible assumption) | assumption);obtain ⟨go112,co112,eo112,gb112,gl112,cl112,HG112⟩:=Kd.R_form HO_242001.out (by omega);(first | cases eo112 | (injection eo112 with ea_ en_ ec_;(first | subst ea_ | (injection ea_ with ea_;subst ea_));subst ec_;clear en_));have GB112:=ak gb112;have GG112:=ak HG112;clear gb112 gl112 HG112;(first | simp only [add_plain] at hx253_0 | skip);(first | simp only [add_plain] at hx271_0 | skip);obtain ⟨hx112_0,hf112_0⟩:=Kd.R_celln 0 HO_242001.out (a1_1 : Int) p112 q112;replace p112:=eq_true p112;replace q112:=eq_true q112;obtain ⟨hy146_,hz146_⟩:=Kd.R_celln 0 HO_242001.out (a1_1 : Int) (of_decide_eq_true (by first | (with_reducible assumption) | assumption)) (of_decide_eq_true (by first | (with_reducible assumption) | assumption));have HP146:=Kd.R_putg HO_242001.out (a1_1 : Int) (wrap64 ((rd x242001_2 a1_1) + 1))) | ((with_reducible refine gate_store (t:=3) (p:=157) rfl ?_);refine store_event (t:=3) (p:=157) (v:=?vo_w147) (w1:=(w141.setCell ⟨go112,(a1_1 : Int).toNat,none⟩ (.int .i64 (wrap64 ((rd x242001_2 a1_1) + 1))))) ?hg ?ho ?hn ?hr ?_;(case ho=>rfl);(case hg=>rfl);(case hn=>rfl);(case hr=>first | (go_simp;done) | (go_simp;rfl));intro w147 hw;have hg : w141.grownBy w147 (some go112):=(by rw [hw];exact HP146.2);have hp_ : Kd.R (Kd.int .i64) 3 w147 w.heap.size (fun k_=>some k_ ≠ (u242004 : Value).ownBlock) (.slice (some ⟨go112,0,none⟩) x242001_2.length co119) y272:=(by rw [hw,Ny272.out];exact HP146.1);clear HP146;have n0_:=ak (hp_);have n1_:=ak (Kd.R_over' (v:=(.slice (some ⟨go112,0,none⟩) x242001_2.length co119)) (rr HO_242002.out) (Kd.R_typed HO_242001.out) (by decide) hg);have n2_:=ak (Kd.R_after (v:=(.slice (some ⟨go112,0,none⟩) x242001_2.length co119)) (v1:=(.slice (some ⟨go112,0,none⟩) x242001_2.length co119)) (ok:=(fun _=>True)) (by (with_reducible repeat (first | apply Kd.R_alloc | apply Kd.R_drewN | apply Kd.R_drew));exact Kd.R_mono HO_242004.out (fun _ hk=>⟨trivial,hk⟩)) hg (.inl rfl));have n3_:=kg BK225 HO_242001 hg;have n4_:=kg BK226 HO_242001 hg;have n5_:=kg BK227 HO_242001 hg;have n6_:=kg BK241 HO_242001 hg;have n7_:=kg BK256 HO_242001 hg;have n8_:=ak (Kd.R_over' (v:=(.slice (some ⟨go112,0,none⟩) x242001_2.length co119)) (rr HO270.out) (Kd.R_typed HO_242001.out) (by decide) hg);have n9_:=ak ((by rw [hw];exact below_set (HB.out) GB112.out : Below w.heap.size w w147));clear HO_242001 HO_242002 HO_242004 BK225 BK226 BK227 BK241 BK256 HO270 HB;have HO_242001:=n0_;have HO_242002:=n1_;have HO_242004:=n2_;have BK225:=n3_;have BK226:=n4_;have BK227:=n5_;have BK241:=n6_;have BK256:=n7_;have HO270:=n8_;have HB:=n9_;clear n0_ n1_ n2_ n3_ n4_ n5_ n6_ n7_ n8_ n9_ hg hw hp_))
     go_roundg k2
     case measure=>have:=HJ3.out;have:=HK2.out;omega
     case rel=>exact ⟨(y268),(y272),(y265),(x242004_2),(.slice Ao139 y268.length co139),(.slice (some ⟨go112,0,none⟩) x242001_2.length co119),(.slice (some ⟨go134,0,none⟩) y265.length co120),(u242004),H',⟨by have:=HJ3.out;have:=HK2.out;omega⟩,⟨rr HO270.out⟩,⟨rr HO_242001.out⟩,⟨rm HO_242002 (fun _ hk=>trivial)⟩,⟨rm HO_242004 (fun _ hk=>hk.2)⟩,⟨rk BK225.out⟩,⟨rk BK226.out⟩,⟨rk BK227.out⟩,⟨rk BK241.out⟩,⟨rbx HB⟩⟩

end Go.Proofs.Ythdeicbkimlnhaa.PFnExactKept
