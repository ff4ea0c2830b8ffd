import Derived.Test.YthdeicbkimlnhaaPFnExactKeptx0
namespace Go.Proofs.Ythdeicbkimlnhaa.PFnExactKept
open Go.RowKit Go.Proofs.YthdeicbkimlnhaaW.PrintWords Go.Proofs.YthdeicbkimlnhaaW.PrintLast Go.Proofs.YthdeicbkimlnhaaW.PrintMore Go.Proofs.YthdeicbkimlnhaaH
attribute [local go_sem] max2_int min2_int max_two min_two max_three min_three max_four min_four   -- for this text's walks alone
set_option linter.unusedVariables false
set_option linter.unusedSimpArgs false
set_option maxRecDepth 100000

/-! ### spec_l20Copy: function 154 -/
def spec_l20Copy.f (l0_0 : List (S134)) (l0_1 : List Int) (l0_2 : List (S127)) (a0_3 : Int) (l0_4 : List Int) : Option ((List (S134)) × List Int × (List (S127)) × Int × List Int):=(some (([] : List (S134)) : List (S134))).bind fun y286=>(if y286.length + l0_0.length < 2932031007402 then ((some (([] : List Int) : List Int)).bind fun y292=>(if y292.length + l0_1.length < 17592186044416 then ((some (([] : List (S127)) : List (S127))).bind fun y298=>(if y298.length + l0_2.length < 2932031007402 then ((some (([] : List Int) : List Int)).bind fun y304=>(if y304.length + l0_4.length < 17592186044416 then (some ((y286 ++ l0_0),(y292 ++ l0_1),(y298 ++ l0_2),a0_3,(y304 ++ l0_4))) else (none))) else (none))) else (none))) else (none))
def spec_l20Copy.T1 : Bool × List (List Nat × List Nat):=(true,[([],[]),([],[]),([1],[1]),([0,2],[0,2]),([],[]),([],[]),([5],[5]),([4,6,3],[4,6]),([],[]),([],[]),([9],[9]),([8,10,7],[8,10]),([],[]),([12],[12]),([],[]),([],[]),([15],[15]),([14,16,11],[14,16]),([3,7,11,13,17],[3,7,11,13,17]),([18,17,0,1,2,3,4,5,6,7,8,9,10,11,12,13,14,15,16,17,18],[18])])
def spec_l20Copy.B1 : List Nat:=[0,0,2,7,0,0,32,127,0,0,512,2047,0,4096,0,0,32768,118783,262143,524287]
theorem spec_l20Copy.tab1 : rtab .any (opsOf Try.f154 1) = spec_l20Copy.T1:=by kernel_rfl
theorem spec_l20Copy.bits1 : waitsOk spec_l20Copy.T1.2 spec_l20Copy.B1 = true:=by kernel_rfl
set_option maxHeartbeats 8000000 in
theorem spec_l20Copy.calls (A0_0 : Option Addr) (c0_0 : Nat) (l0_0 : List (S134)) (A0_1 : Option Addr) (c0_1 : Nat) (l0_1 : List Int) (A0_2 : Option Addr) (c0_2 : Nat) (l0_2 : List (S127)) (a0_3 : Int) (A0_4 : Option Addr) (c0_4 : Nat) (l0_4 : List Int) (r1 : List (S134)) (r2 : List Int) (r3 : List (S127)) (r4 : Int) (r5 : List Int) (w : World) (hr0_0 : Kd.C k134 w A0_0 l0_0.length l0_0) (hc0_0 : l0_0.length ≤ c0_0) (hr0_1 : Kd.C (Kd.int .i64) w A0_1 l0_1.length l0_1) (hc0_1 : l0_1.length ≤ c0_1) (hr0_2 : Kd.C k127 w A0_2 l0_2.length l0_2) (hc0_2 : l0_2.length ≤ c0_2) (hr0_4 : Kd.C (Kd.int .i64) w A0_4 l0_4.length l0_4) (hc0_4 : l0_4.length ≤ c0_4) (h : spec_l20Copy.f l0_0 l0_1 l0_2 a0_3 l0_4 = some (r1,r2,r3,r4,r5)) :
  Calls Try.prog 154 #[.agg #[.slice A0_0 l0_0.length c0_0,.slice A0_1 l0_1.length c0_1,.slice A0_2 l0_2.length c0_2,.int .i64 a0_3,.slice A0_4 l0_4.length c0_4]] w fun e w'=>∃ v0_ v1_ v2_ v4_ : Value,e = .returned (.agg #[v0_,v1_,v2_,.int .i64 r4,v4_])∧Kd.R k134 134 w' w.heap.size (fun _=>True) v0_ r1∧Kd.R (Kd.int .i64) 3 w' w.heap.size (fun k_=>some k_ ≠ (v4_ : Value).ownBlock) v1_ r2∧Kd.R k127 127 w' w.heap.size (fun _=>True) v2_ r3∧Kd.R (Kd.int .i64) 3 w' w.heap.size (fun k_=>some k_ ≠ (v1_ : Value).ownBlock) v4_ r5∧Below w.heap.size w w':=by
 have hu51:=Try.underlying51
 have HR0_0:=ak hr0_0
 have HC0_0:=ak hc0_0
 clear hr0_0 hc0_0
 have HR0_1:=ak hr0_1
 have HC0_1:=ak hc0_1
 clear hr0_1 hc0_1
 have HR0_2:=ak hr0_2
 have HC0_2:=ak hc0_2
 clear hr0_2 hc0_2
 have HR0_4:=ak hr0_4
 have HC0_4:=ak hc0_4
 clear hr0_4 hc0_4
 have HB:=ak (Below.refl w.heap.size w)
 have H:=h
 clear h
 unfold spec_l20Copy.f at H
 obtain ⟨y286,hy286⟩ : ∃ y_ : List (S134),y_ = (([] : List (S134))):=⟨_,rfl⟩
 replace H : (if y286.length + l0_0.length < 2932031007402 then ((some (([] : List Int) : List Int)).bind fun y292=>(if y292.length + l0_1.length < 17592186044416 then ((some (([] : List (S127)) : List (S127))).bind fun y298=>(if y298.length + l0_2.length < 2932031007402 then ((some (([] : List Int) : List Int)).bind fun y304=>(if y304.length + l0_4.length < 17592186044416 then (some ((y286 ++ l0_0),(y292 ++ l0_1),(y298 ++ l0_2),a0_3,(y304 ++ l0_4))) else (none))) else (none))) else (none))) else (none)) = some (r1,r2,r3,r4,r5):=by first | (rw [hy286];with_reducible exact H) | (have H2_:=(Option.bind_some _ _).symm.trans H;rw [hy286];with_reducible exact H2_) | (have H2_:=(Option.bind_some _ _).symm.trans H;with_reducible exact H2_) | with_reducible exact H | (rw [hy286];exact H) | exact H
 have Ny286:=ak hy286
 clear hy286
 by_cases c2 : y286.length + l0_0.length < 2932031007402
 rotate_left
 ·rw [if_neg c2] at H
  exact absurd H (by simp)
 rw [if_pos c2] at H
 have LMc2:=ak c2
 clear c2
 obtain ⟨y289,hy289⟩ : ∃ y_ : List (S134),y_ = (y286 ++ l0_0):=⟨_,rfl⟩
 replace H : ((some (([] : List Int) : List Int)).bind fun y292=>(if y292.length + l0_1.length < 17592186044416 then ((some (([] : List (S127)) : List (S127))).bind fun y298=>(if y298.length + l0_2.length < 2932031007402 then ((some (([] : List Int) : List Int)).bind fun y304=>(if y304.length + l0_4.length < 17592186044416 then (some (y289,(y292 ++ l0_1),(y298 ++ l0_2),a0_3,(y304 ++ l0_4))) else (none))) else (none))) else (none))) = some (r1,r2,r3,r4,r5):=by first | (rw [hy289];with_reducible exact H) | (have H2_:=(Option.bind_some _ _).symm.trans H;rw [hy289];with_reducible exact H2_) | (have H2_:=(Option.bind_some _ _).symm.trans H;with_reducible exact H2_) | with_reducible exact H | (rw [hy289];exact H) | exact H
 have Ny289:=ak hy289
 clear hy289
 obtain ⟨y292,hy292⟩ : ∃ y_ : List Int,y_ = (([] : List Int)):=⟨_,rfl⟩
 replace H : (if y292.length + l0_1.length < 17592186044416 then ((some (([] : List (S127)) : List (S127))).bind fun y298=>(if y298.length + l0_2.length < 2932031007402 then ((some (([] : List Int) : List Int)).bind fun y304=>(if y304.length + l0_4.length < 17592186044416 then (some (y289,(y292 ++ l0_1),(y298 ++ l0_2),a0_3,(y304 ++ l0_4))) else (none))) else (none))) else (none)) = some (r1,r2,r3,r4,r5):=by first | (rw [hy292];with_reducible exact H) | (have H2_:=(Option.bind_some _ _).symm.trans H;rw [hy292];with_reducible exact H2_) | (have H2_:=(Option.bind_some _ _).symm.trans H;with_reducible exact H2_) | with_reducible exact H | (rw [hy292];exact H) | exact H
 have Ny292:=ak hy292
 clear hy292
 by_cases c3 : y292.length + l0_1.length < 17592186044416
 rotate_left
 ·rw [if_neg c3] at H
  exact absurd H (by simp)
 rw [if_pos c3] at H
 have LMc3:=ak c3
 clear c3
 obtain ⟨y295,hy295⟩ : ∃ y_ : List Int,y_ = (y292 ++ l0_1):=⟨_,rfl⟩
 replace H : ((some (([] : List (S127)) : List (S127))).bind fun y298=>(if y298.length + l0_2.length < 2932031007402 then ((some (([] : List Int) : List Int)).bind fun y304=>(if y304.length + l0_4.length < 17592186044416 then (some (y289,y295,(y298 ++ l0_2),a0_3,(y304 ++ l0_4))) else (none))) else (none))) = some (r1,r2,r3,r4,r5):=by first | (rw [hy295];with_reducible exact H) | (have H2_:=(Option.bind_some _ _).symm.trans H;rw [hy295];with_reducible exact H2_) | (have H2_:=(Option.bind_some _ _).symm.trans H;with_reducible exact H2_) | with_reducible exact H | (rw [hy295];exact H) | exact H
 have Ny295:=ak hy295
 clear hy295
 obtain ⟨y298,hy298⟩ : ∃ y_ : List (S127),y_ = (([] : List (S127))):=⟨_,rfl⟩
 replace H : (if y298.length + l0_2.length < 2932031007402 then ((some (([] : List Int) : List Int)).bind fun y304=>(if y304.length + l0_4.length < 17592186044416 then (some (y289,y295,(y298 ++ l0_2),a0_3,(y304 ++ l0_4))) else (none))) else (none)) = some (r1,r2,r3,r4,r5):=by first | (rw [hy298];with_reducible exact H) | (have H2_:=(Option.bind_some _ _).symm.trans H;rw [hy298];with_reducible exact H2_) | (have H2_:=(Option.bind_some _ _).symm.trans H;with_reducible exact H2_) | with_reducible exact H | (rw [hy298];exact H) | exact H
 have Ny298:=ak hy298
 clear hy298
 by_cases c4 : y298.length + l0_2.length < 2932031007402
 rotate_left
 ·rw [if_neg c4] at H
  exact absurd H (by simp)
 rw [if_pos c4] at H
 have LMc4:=ak c4
 clear c4
 obtain ⟨y301,hy301⟩ : ∃ y_ : List (S127),y_ = (y298 ++ l0_2):=⟨_,rfl⟩
 replace H : ((some (([] : List Int) : List Int)).bind fun y304=>(if y304.length + l0_4.length < 17592186044416 then (some (y289,y295,y301,a0_3,(y304 ++ l0_4))) else (none))) = some (r1,r2,r3,r4,r5):=by first | (rw [hy301];with_reducible exact H) | (have H2_:=(Option.bind_some _ _).symm.trans H;rw [hy301];with_reducible exact H2_) | (have H2_:=(Option.bind_some _ _).symm.trans H;with_reducible exact H2_) | with_reducible exact H | (rw [hy301];exact H) | exact H
 have Ny301:=ak hy301
 clear hy301
 obtain ⟨y304,hy304⟩ : ∃ y_ : List Int,y_ = (([] : List Int)):=⟨_,rfl⟩
 replace H : (if y304.length + l0_4.length < 17592186044416 then (some (y289,y295,y301,a0_3,(y304 ++ l0_4))) else (none)) = some (r1,r2,r3,r4,r5):=by first | (rw [hy304];with_reducible exact H) | (have H2_:=(Option.bind_some _ _).symm.trans H;rw [hy304];with_reducible exact H2_) | (have H2_:=(Option.bind_some _ _).symm.trans H;with_reducible exact H2_) | with_reducible exact H | (rw [hy304];exact H) | exact H
 have Ny304:=ak hy304
 clear hy304
 by_cases c5 : y304.length + l0_4.length < 17592186044416
 rotate_left
 ·rw [if_neg c5] at H
  exact absurd H (by simp)
 rw [if_pos c5] at H
 have LMc5:=ak c5
 clear c5
 obtain ⟨y307,hy307⟩ : ∃ y_ : List Int,y_ = (y304 ++ l0_4):=⟨_,rfl⟩
 replace H : (some (y289,y295,y301,a0_3,y307)) = some (r1,r2,r3,r4,r5):=by first | (rw [hy307];with_reducible exact H) | (have H2_:=(Option.bind_some _ _).symm.trans H;rw [hy307];with_reducible exact H2_) | (have H2_:=(Option.bind_some _ _).symm.trans H;with_reducible exact H2_) | with_reducible exact H | (rw [hy307];exact H) | exact H
 have Ny307:=ak hy307
 clear hy307
 simp only [Option.some.injEq,Prod.mk.injEq] at H
 obtain ⟨rfl,rfl,rfl,rfl,rfl⟩:=H
 go_enter Try.func154,Try.ntmps154
 try go_wp2_with (first | ((with_reducible refine gate_dst (N:=1) rfl ?_);refine box_event ?hg (N:=1) ?hd (cs:=#[.slice A0_0 l0_0.length c0_0,.slice A0_1 l0_1.length c0_1,.slice A0_2 l0_2.length c0_2,.int .i64 a0_3,.slice A0_4 l0_4.length c0_4]) (t:=51) ?hr ?_;(case hd=>rfl);(case hg=>rfl);(case hr=>first | (go_simp;done) | (go_simp;rfl));intro gb284 hg w6 hbox hb;have n_ : _∧_∧_∧_:=⟨kh HB hb,ak (hbox),kz HB hg,kz HB hg⟩;clear HB hb hbox hg;obtain ⟨HB,BK284,GW284,GE284⟩:=n_) | ((with_reducible refine gate_dst (N:=2) rfl ?_);refine box_event ?hg (N:=2) ?hd (cs:=#[.slice none 0 0,.slice none 0 0,.slice none 0 0,.int .i64 0,.slice none 0 0]) (t:=51) ?hr ?_;(case hd=>rfl);(case hg=>rfl);(case hr=>first | (go_simp;done) | (go_simp;rfl));intro gb285 hg w7 hbox hb;have n_ : _∧_∧_∧_∧_∧_∧_:=⟨kb BK284 hb,kh HB hb,ak (hbox),kz HB hg,kz HB hg,nl BK284 hg,ng BK284 hg⟩;clear BK284 HB hb hbox hg;obtain ⟨BK284,HB,BK285,GW285,GE285,NB284_285,NB285_284⟩:=n_))
 have n_ : _∧_∧_:=⟨ak (blk_drew BK284.out),ak (blk_drew BK285.out),ak (below_drew1 HB.out)⟩
 clear BK284 BK285 HB
 obtain ⟨BK284,BK285,HB⟩:=n_
 refine start_ (n:=20) (S:=fun w'=>True) (ds:=[]) #[false,false,false,false,false,false,false,false,false,false,false,false,false,false,false,false,false,false,false,false] (by kernel_rfl) rfl rfl trivial (fun hHeld=>?_);refine with_tabW spec_l20Copy.tab1 spec_l20Copy.bits1 (fun HT_ HW_=>?_)
 generalize w7.drew = w8 at BK284 BK285 HB hHeld ⊢
 refine pure_ (i:=1) (N:=some 4) (v:=?_) (a':=?_) #[false,true,false,false,false,false,false,false,false,false,false,false,false,false,false,false,false,false,false,false] rfl rfl (any_of HT_.out (by kernel_rfl)) (fun _ _ _ h=>h) (Or.inl ⟨by rfl,?_⟩) ?_ ?_
 rotate_left
 ·intro w'
  go_simp
  with_reducible rfl
 rotate_left
 ·simp only [Act.put,List.setIfInBounds_toArray,List.set_cons_zero,List.set_cons_succ,i64_w,i32_w]
  rfl
 refine pure_ (i:=5) (N:=some 8) (v:=?_) (a':=?_) #[false,true,false,false,false,true,false,false,false,false,false,false,false,false,false,false,false,false,false,false] rfl rfl (any_of HT_.out (by kernel_rfl)) (fun _ _ _ h=>h) (Or.inl ⟨by rfl,?_⟩) ?_ ?_
 rotate_left
 ·intro w'
  go_simp
  with_reducible rfl
 rotate_left
 ·simp only [Act.put,List.setIfInBounds_toArray,List.set_cons_zero,List.set_cons_succ,i64_w,i32_w]
  rfl
 refine pure_ (i:=9) (N:=some 12) (v:=?_) (a':=?_) #[false,true,false,false,false,true,false,false,false,true,false,false,false,false,false,false,false,false,false,false] rfl rfl (any_of HT_.out (by kernel_rfl)) (fun _ _ _ h=>h) (Or.inl ⟨by rfl,?_⟩) ?_ ?_
 rotate_left
 ·intro w'
  go_simp
  with_reducible rfl
 rotate_left
 ·simp only [Act.put,List.setIfInBounds_toArray,List.set_cons_zero,List.set_cons_succ,i64_w,i32_w]
  rfl
 refine pure_ (i:=12) (N:=some 15) (v:=?_) (a':=?_) #[false,true,false,false,false,true,false,false,false,true,false,false,true,false,false,false,false,false,false,false] rfl rfl (any_of HT_.out (by kernel_rfl)) (fun _ _ _ h=>h) (Or.inl ⟨by rfl,?_⟩) ?_ ?_
 rotate_left
 ·intro w'
  go_simp
  with_reducible rfl
 rotate_left
 ·simp only [Act.put,List.setIfInBounds_toArray,List.set_cons_zero,List.set_cons_succ,i64_w,i32_w]
  rfl
 refine pure_ (i:=15) (N:=some 18) (v:=?_) (a':=?_) #[false,true,false,false,false,true,false,false,false,true,false,false,true,false,false,true,false,false,false,false] rfl rfl (any_of HT_.out (by kernel_rfl)) (fun _ _ _ h=>h) (Or.inl ⟨by rfl,?_⟩) ?_ ?_
 rotate_left
 ·intro w'
  go_simp
  with_reducible rfl
 rotate_left
 ·simp only [Act.put,List.setIfInBounds_toArray,List.set_cons_zero,List.set_cons_succ,i64_w,i32_w]
  rfl
 refine inv_at [0,2,3,4,6,7,8,10,11,13,14,16,17,18,19] (fun a0_ b a w'=>∃ (v287 : Value) (v290 : Value) (v293 : Value) (v296 : Value) (v299 : Value) (v302 : Value) (v305 : Value) (v308 : Value) (m18_ : Value),a = putSel a0_ b [(0,3,v287),(2,5,.slice A0_0 l0_0.length c0_0),(3,6,v290),(4,7,v293),(6,9,.slice A0_1 l0_1.length c0_1),(7,10,v296),(8,11,v299),(10,13,.slice A0_2 l0_2.length c0_2),(11,14,v302),(13,16,.int .i64 a0_3),(14,17,v305),(16,19,.slice A0_4 l0_4.length c0_4),(17,20,v308),(18,21,m18_)]∧(w'.heap[gb284]? = some (.cells #[.slice A0_0 l0_0.length c0_0,.slice A0_1 l0_1.length c0_1,.slice A0_2 l0_2.length c0_2,.int .i64 a0_3,.slice A0_4 l0_4.length c0_4] 51 (0,0)))∧(b 19 = false→w'.heap[gb285]? = some (.cells #[.slice none 0 0,.slice none 0 0,.slice none 0 0,.int .i64 0,.slice none 0 0] 51 (0,0)))∧(Below w.heap.size w w')∧(b 0 = true→b 3 = false→Kd.R k134 134 w' w.heap.size (fun _=>True) v287 y286)∧(b 3 = true→Kd.R k134 134 w' w.heap.size (fun _=>True) v290 y289)∧(b 4 = true→b 7 = false→Kd.R (Kd.int .i64) 3 w' w.heap.size (fun _=>True) v293 y292)∧(b 7 = true→Kd.R (Kd.int .i64) 3 w' w.heap.size (fun _=>True) v296 y295)∧(b 8 = true→b 11 = false→Kd.R k127 127 w' w.heap.size (fun _=>True) v299 y298)∧(b 11 = true→Kd.R k127 127 w' w.heap.size (fun _=>True) v302 y301)∧(b 14 = true→b 17 = false→Kd.R (Kd.int .i64) 3 w' w.heap.size (fun _=>True) v305 y304)∧(b 17 = true→Kd.R (Kd.int .i64) 3 w' w.heap.size (fun _=>True) v308 y307)∧(b 19 = true→w'.heap[gb285]? = some (.cells #[v290,v296,v302,.int .i64 a0_3,v308] 51 (0,0)))∧(b 18 = true→(m18_ : Value) = .agg #[v290,v296,v302,.int .i64 a0_3,v308])∧(b 4 = true→b 7 = false→b 14 = true→b 17 = false→Ap v293 v305)∧(b 4 = true→b 7 = false→b 17 = true→Ap v293 v308)∧(b 7 = true→b 14 = true→b 17 = false→Ap v296 v305)∧(b 7 = true→b 17 = true→Ap v296 v308)) HT_.out HW_.out (by kernel_rfl) (by kernel_rfl) ?_ ?_ ?_
 ·exact ⟨.bool false,.bool false,.bool false,.bool false,.bool false,.bool false,.bool false,.bool false,.bool false,by simp only [putSel,Bool.false_eq_true,if_false],BK284.out,fun _=>BK285.out,HB.out,nf,nf,nf,nf,nf,nf,nf,nf,nf,nf,nf,nf,nf,nf⟩
 ·skip
  clear BK284 BK285 HB
  refine steps_cons ?_ ?_
  ·rintro b a w' ⟨v287,v290,v293,v296,v299,v302,v305,v308,m18_,ha,Q_BK284,Q_BK285,Q_HB,Q_HO288,Q_HO291,Q_HO294,Q_HO297,Q_HO300,Q_HO303,Q_HO306,Q_HO309,Q_BK285_e19,Q_X18_,Q_AP293_305,Q_AP293_308,Q_AP296_305,Q_AP296_308⟩ hb_ hon hoff
   refine ⟨_,rfl,fun K hK=>?_⟩
   replace ha:=ak ha
   have BK284:=ak Q_BK284
   have BK285:=ak (Q_BK285 (hn hoff 19))
   have HB:=ak Q_HB
   refine Kd.R_lit_step k134 _ 134 ?hg (N:=3) ?hd (xs:=([] : List (S134))) (inner:=[]) (ok:=fun _=>True) (okp:=fun _=>True) ?hr ?hp (fun _ hk=>hk) trivial (Below.refl _ _) (Nat.le_refl _) (by simp) ?_;(case hd=>rfl);(case hg=>rfl);(case hr=>first | (go_simp;done) | (go_simp;rfl));(case hp=>exact (Reps.none _ _))
   intro v287 w9 ho10 hb hg_ hnew_
   clear hg_ hnew_
   (first | rw [← Ny286.out] at ho10 | (simp only [Int.reduceToNat] at ho10;rw [← Ny286.out] at ho10))
   have n_ : _∧_∧_∧_:=⟨kl ho10 HB,kb BK284 hb,kb BK285 hb,kh HB hb⟩
   have z_HO294:=fun (h0_ : b 4 = true) (h1_ : b 7 = false)=>(show Kd.R (Kd.int .i64) 3 w9 w.heap.size (fun _=>True) v293 y292 from zm (Kd.R_below (by (with_reducible repeat (first | apply Kd.R_alloc | apply Kd.R_drewN | apply Kd.R_drew));exact (Q_HO294 h0_ h1_)) hb))
   have z_HO300:=fun (h0_ : b 8 = true) (h1_ : b 11 = false)=>(show Kd.R k127 127 w9 w.heap.size (fun _=>True) v299 y298 from zm (Kd.R_below (by (with_reducible repeat (first | apply Kd.R_alloc | apply Kd.R_drewN | apply Kd.R_drew));exact (Q_HO300 h0_ h1_)) hb))
   have z_HO306:=fun (h0_ : b 14 = true) (h1_ : b 17 = false)=>(show Kd.R (Kd.int .i64) 3 w9 w.heap.size (fun _=>True) v305 y304 from zm (Kd.R_below (by (with_reducible repeat (first | apply Kd.R_alloc | apply Kd.R_drewN | apply Kd.R_drew));exact (Q_HO306 h0_ h1_)) hb))
   clear BK284 BK285 HB hb ho10
   obtain ⟨HO288,BK284,BK285,HB⟩:=n_
   refine hK.out _ _ ⟨v287,v290,v293,v296,v299,v302,v305,v308,m18_,(by rw [ha.out];exact putSel_upk 0 hb_ rfl rfl rfl),(rk BK284.out),fun _=>(rk BK285.out),(rb2 GE284.out GE285.out HB.out),fun _ _=>(rr HO288.out),nx (hn hoff 3),z_HO294,nx (hn hoff 7),z_HO300,nx (hn hoff 11),z_HO306,nx (hn hoff 17),nx (hn hoff 19),nx (hn hoff 18),Q_AP293_305,Q_AP293_308,Q_AP296_305,Q_AP296_308⟩
  refine steps_cons ?_ ?_
  ·rintro b a w' ⟨v287,v290,v293,v296,v299,v302,v305,v308,m18_,ha,Q_BK284,Q_BK285,Q_HB,Q_HO288,Q_HO291,Q_HO294,Q_HO297,Q_HO300,Q_HO303,Q_HO306,Q_HO309,Q_BK285_e19,Q_X18_,Q_AP293_305,Q_AP293_308,Q_AP296_305,Q_AP296_308⟩ hb_ hon hoff
   refine ⟨_,rfl,fun K hK=>?_⟩
   have e4 : a.tmps[4]? = some (.pointer (some ⟨gb284,0,none⟩)):=by rw [ha];exact (putSel_off rfl).trans rfl
   replace ha:=ak ha
   have BK284:=ak Q_BK284
   have BK285:=ak (Q_BK285 (hn hoff 19))
   have HB:=ak Q_HB
   have hc0_ : w'.cell? ⟨gb284,0,none⟩ = some (.slice A0_0 l0_0.length c0_0):=(blk_cell BK284.out 0).trans rfl
   have hc1_ : w'.cell? ⟨gb284,1,none⟩ = some (.slice A0_1 l0_1.length c0_1):=(blk_cell BK284.out 1).trans rfl
   have hc2_ : w'.cell? ⟨gb284,2,none⟩ = some (.slice A0_2 l0_2.length c0_2):=(blk_cell BK284.out 2).trans rfl
   have hc3_ : w'.cell? ⟨gb284,3,none⟩ = some (.int .i64 a0_3):=(blk_cell BK284.out 3).trans rfl
   have hc4_ : w'.cell? ⟨gb284,4,none⟩ = some (.slice A0_4 l0_4.length c0_4):=(blk_cell BK284.out 4).trans rfl
   refine value_ (w1:=w') (v:=.slice A0_0 l0_0.length c0_0) (by rfl) rfl ?_ ?_
   ·go_simp
    (try simp only [i64_w])
    try rfl
   refine hK.out _ _ ⟨v287,v290,v293,v296,v299,v302,v305,v308,m18_,(by rw [ha.out];exact putSel_upk 1 hb_ rfl rfl rfl),Q_BK284,Q_BK285,Q_HB,Q_HO288,nx (hn hoff 3),Q_HO294,nx (hn hoff 7),Q_HO300,nx (hn hoff 11),Q_HO306,nx (hn hoff 17),nx (hn hoff 19),nx (hn hoff 18),Q_AP293_305,Q_AP293_308,Q_AP296_305,Q_AP296_308⟩
  refine steps_cons ?_ ?_
  ·rintro b a w' ⟨v287,v290,v293,v296,v299,v302,v305,v308,m18_,ha,Q_BK284,Q_BK285,Q_HB,Q_HO288,Q_HO291,Q_HO294,Q_HO297,Q_HO300,Q_HO303,Q_HO306,Q_HO309,Q_BK285_e19,Q_X18_,Q_AP293_305,Q_AP293_308,Q_AP296_305,Q_AP296_308⟩ hb_ hon hoff
   refine ⟨_,rfl,fun K hK=>?_⟩
   have e3 : a.tmps[3]? = some (v287):=by rw [ha];exact putSel_on (e:=(0,3,v287)) 0 rfl rfl (hn hon 0) rfl
   have e5 : a.tmps[5]? = some (.slice A0_0 l0_0.length c0_0):=by rw [ha];exact putSel_on (e:=(2,5,.slice A0_0 l0_0.length c0_0)) 1 rfl rfl (hn hon 2) rfl
   replace ha:=ak ha
   have BK284:=ak Q_BK284
   have BK285:=ak (Q_BK285 (hn hoff 19))
   have HB:=ak Q_HB
   have HO288:=ak (Q_HO288 (hn hon 0) hb_)
   refine Kd.R_append_rows_step k134 (w0:=w) w.heap.size (by rfl) (.tmp 3) (.tmp 5) 48 134 (.agg #[(.int .i64 0),(.int .i64 0),(.int .i64 0),(.int .i64 0),(.int .i64 0),(.int .i64 0)]) 48 rfl Try.underlying48 info134 rfl (by decide) (by omega) v287 y286 l0_0 _ _ _ (fun _=>True) (fun _=>False) (by first | rfl | exact ev_ e3) (by first | rfl | exact ev_ e5) ?aO ?aR (fun _ _ h=>h) (fun _ h=>h.elim) ?aF ?aB ?aS ?aL ?_
   (case aR=>repeat (first | exact (Kd.C_below HR0_0.out HB.out) | (with_reducible refine Kd.C_alloc ?_ _) | (with_reducible refine Kd.C_drewN ?_ _) | (with_reducible refine Kd.C_drew ?_)))
   (case aB=>exact (rb2 GE284.out GE285.out HB.out))
   (case aF=>exact (fun _ _=>trivial))
   (case aO=>exact (rr HO288.out))
   (case aS=>exact (below_size (rb2 GE284.out GE285.out HB.out)))
   (case aL=>have:=LMc2.out;omega)
   intro v290 w12 ho hb hg hat
   rw [← Ny289.out] at ho
   have n_ : _∧_∧_∧_:=⟨kg BK284 HO288 hg,kg BK285 HO288 hg,ak (hb),ak (ho)⟩
   have z_HO294:=fun (h0_ : b 4 = true) (h1_ : b 7 = false)=>(show Kd.R (Kd.int .i64) 3 w12 w.heap.size (fun _=>True) v293 y292 from zm (Kd.R_over' (by (with_reducible repeat (first | apply Kd.R_alloc | apply Kd.R_drewN | apply Kd.R_drew));exact (Q_HO294 h0_ h1_)) (Kd.R_typed (rr HO288.out)) (by decide) hg))
   have z_HO300:=fun (h0_ : b 8 = true) (h1_ : b 11 = false)=>(show Kd.R k127 127 w12 w.heap.size (fun _=>True) v299 y298 from zm (Kd.R_over' (by (with_reducible repeat (first | apply Kd.R_alloc | apply Kd.R_drewN | apply Kd.R_drew));exact (Q_HO300 h0_ h1_)) (Kd.R_typed (rr HO288.out)) (by decide) hg))
   have z_HO306:=fun (h0_ : b 14 = true) (h1_ : b 17 = false)=>(show Kd.R (Kd.int .i64) 3 w12 w.heap.size (fun _=>True) v305 y304 from zm (Kd.R_over' (by (with_reducible repeat (first | apply Kd.R_alloc | apply Kd.R_drewN | apply Kd.R_drew));exact (Q_HO306 h0_ h1_)) (Kd.R_typed (rr HO288.out)) (by decide) hg))
   clear BK284 BK285 HB HO288 ho hb hg hat
   obtain ⟨BK284,BK285,HB,HO291⟩:=n_
   refine hK.out _ _ ⟨v287,v290,v293,v296,v299,v302,v305,v308,m18_,(by rw [ha.out];exact putSel_upk 2 hb_ rfl rfl rfl),(rk BK284.out),fun _=>(rk BK285.out),(rb2 GE284.out GE285.out HB.out),fun _ h1_=>absurd ((up_self b 3).symm.trans h1_) (by decide),fun _=>(rr HO291.out),z_HO294,nx (hn hoff 7),z_HO300,nx (hn hoff 11),z_HO306,nx (hn hoff 17),nx (hn hoff 19),nx (hn hoff 18),Q_AP293_305,Q_AP293_308,Q_AP296_305,Q_AP296_308⟩
  refine steps_cons ?_ ?_
  ·rintro b a w' ⟨v287,v290,v293,v296,v299,v302,v305,v308,m18_,ha,Q_BK284,Q_BK285,Q_HB,Q_HO288,Q_HO291,Q_HO294,Q_HO297,Q_HO300,Q_HO303,Q_HO306,Q_HO309,Q_BK285_e19,Q_X18_,Q_AP293_305,Q_AP293_308,Q_AP296_305,Q_AP296_308⟩ hb_ hon hoff
   refine ⟨_,rfl,fun K hK=>?_⟩
   replace ha:=ak ha
   have BK284:=ak Q_BK284
   have BK285:=ak (Q_BK285 (hn hoff 19))
   have HB:=ak Q_HB
   refine Kd.R_lit_step (Kd.int .i64) _ 3 ?hg (N:=7) ?hd (xs:=([] : List Int)) (inner:=[]) (ok:=fun _=>True) (okp:=fun _=>True) ?hr ?hp (fun _ hk=>hk) trivial (Below.refl _ _) (Nat.le_refl _) (by simp) ?_;(case hd=>rfl);(case hg=>rfl);(case hr=>first | (go_simp;done) | (go_simp;rfl));(case hp=>exact (Reps.none _ _))
   intro v293 w9 ho10 hb hg_ hnew_
   clear hg_ hnew_
   (first | rw [← Ny292.out] at ho10 | (simp only [Int.reduceToNat] at ho10;rw [← Ny292.out] at ho10))
   have n_ : _∧_∧_∧_:=⟨kl ho10 HB,kb BK284 hb,kb BK285 hb,kh HB hb⟩
   have z_HO288:=fun (h0_ : b 0 = true) (h1_ : b 3 = false)=>(show Kd.R k134 134 w9 w.heap.size (fun _=>True) v287 y286 from zm (Kd.R_below (by (with_reducible repeat (first | apply Kd.R_alloc | apply Kd.R_drewN | apply Kd.R_drew));exact (Q_HO288 h0_ h1_)) hb))
   have z_HO291:=fun (h0_ : b 3 = true)=>(show Kd.R k134 134 w9 w.heap.size (fun _=>True) v290 y289 from zm (Kd.R_below (by (with_reducible repeat (first | apply Kd.R_alloc | apply Kd.R_drewN | apply Kd.R_drew));exact (Q_HO291 h0_)) hb))
   have z_HO300:=fun (h0_ : b 8 = true) (h1_ : b 11 = false)=>(show Kd.R k127 127 w9 w.heap.size (fun _=>True) v299 y298 from zm (Kd.R_below (by (with_reducible repeat (first | apply Kd.R_alloc | apply Kd.R_drewN | apply Kd.R_drew));exact (Q_HO300 h0_ h1_)) hb))
   have z_HO306:=fun (h0_ : b 14 = true) (h1_ : b 17 = false)=>(show Kd.R (Kd.int .i64) 3 w9 w.heap.size (fun _=>True) v305 y304 from zm (Kd.R_elder' (by (with_reducible repeat (first | apply Kd.R_alloc | apply Kd.R_drewN | apply Kd.R_drew));exact (Q_HO306 h0_ h1_)) (Kd.R_base ho10) hb))
   have z_AP293_305:=fun (_ : up b 4 4 = true) (_ : up b 4 7 = false) (g1_ : b 14 = true) (g2_ : b 17 = false)=>(show Ap v293 v305 from ap_new ho10 (Q_HO306 g1_ g2_))
   clear BK284 BK285 HB hb ho10
   obtain ⟨HO294,BK284,BK285,HB⟩:=n_
   refine hK.out _ _ ⟨v287,v290,v293,v296,v299,v302,v305,v308,m18_,(by rw [ha.out];exact putSel_upk 3 hb_ rfl rfl rfl),(rk BK284.out),fun _=>(rk BK285.out),(rb2 GE284.out GE285.out HB.out),z_HO288,z_HO291,fun _ _=>(rr (Kd.R_mono HO294.out (fun _ _=>trivial))),nx (hn hoff 7),z_HO300,nx (hn hoff 11),z_HO306,nx (hn hoff 17),nx (hn hoff 19),nx (hn hoff 18),z_AP293_305,fun _ _=>nx (hn hoff 17),Q_AP296_305,Q_AP296_308⟩
  refine steps_cons ?_ ?_
  ·rintro b a w' ⟨v287,v290,v293,v296,v299,v302,v305,v308,m18_,ha,Q_BK284,Q_BK285,Q_HB,Q_HO288,Q_HO291,Q_HO294,Q_HO297,Q_HO300,Q_HO303,Q_HO306,Q_HO309,Q_BK285_e19,Q_X18_,Q_AP293_305,Q_AP293_308,Q_AP296_305,Q_AP296_308⟩ hb_ hon hoff
   refine ⟨_,rfl,fun K hK=>?_⟩
   have e8 : a.tmps[8]? = some (.pointer (some ⟨gb284,1,none⟩)):=by rw [ha];exact (putSel_off rfl).trans rfl
   replace ha:=ak ha
   have BK284:=ak Q_BK284
   have BK285:=ak (Q_BK285 (hn hoff 19))
   have HB:=ak Q_HB
   have hc0_ : w'.cell? ⟨gb284,0,none⟩ = some (.slice A0_0 l0_0.length c0_0):=(blk_cell BK284.out 0).trans rfl
   have hc1_ : w'.cell? ⟨gb284,1,none⟩ = some (.slice A0_1 l0_1.length c0_1):=(blk_cell BK284.out 1).trans rfl
   have hc2_ : w'.cell? ⟨gb284,2,none⟩ = some (.slice A0_2 l0_2.length c0_2):=(blk_cell BK284.out 2).trans rfl
   have hc3_ : w'.cell? ⟨gb284,3,none⟩ = some (.int .i64 a0_3):=(blk_cell BK284.out 3).trans rfl
   have hc4_ : w'.cell? ⟨gb284,4,none⟩ = some (.slice A0_4 l0_4.length c0_4):=(blk_cell BK284.out 4).trans rfl
   refine value_ (w1:=w') (v:=.slice A0_1 l0_1.length c0_1) (by rfl) rfl ?_ ?_
   ·go_simp
    (try simp only [i64_w])
    try rfl
   refine hK.out _ _ ⟨v287,v290,v293,v296,v299,v302,v305,v308,m18_,(by rw [ha.out];exact putSel_upk 4 hb_ rfl rfl rfl),Q_BK284,Q_BK285,Q_HB,Q_HO288,Q_HO291,Q_HO294,nx (hn hoff 7),Q_HO300,nx (hn hoff 11),Q_HO306,nx (hn hoff 17),nx (hn hoff 19),nx (hn hoff 18),Q_AP293_305,Q_AP293_308,Q_AP296_305,Q_AP296_308⟩
  refine steps_cons ?_ ?_
  ·rintro b a w' ⟨v287,v290,v293,v296,v299,v302,v305,v308,m18_,ha,Q_BK284,Q_BK285,Q_HB,Q_HO288,Q_HO291,Q_HO294,Q_HO297,Q_HO300,Q_HO303,Q_HO306,Q_HO309,Q_BK285_e19,Q_X18_,Q_AP293_305,Q_AP293_308,Q_AP296_305,Q_AP296_308⟩ hb_ hon hoff
   refine ⟨_,rfl,fun K hK=>?_⟩
   have e7 : a.tmps[7]? = some (v293):=by rw [ha];exact putSel_on (e:=(4,7,v293)) 3 rfl rfl (hn hon 4) rfl
   have e9 : a.tmps[9]? = some (.slice A0_1 l0_1.length c0_1):=by rw [ha];exact putSel_on (e:=(6,9,.slice A0_1 l0_1.length c0_1)) 4 rfl rfl (hn hon 6) rfl
   replace ha:=ak ha
   have BK284:=ak Q_BK284
   have BK285:=ak (Q_BK285 (hn hoff 19))
   have HB:=ak Q_HB
   have HO291:=ak (Q_HO291 (hn hon 3))
   have HO294:=ak (Q_HO294 (hn hon 4) hb_)
   refine Kd.R_append_rows_step (Kd.int .i64) (w0:=w) w.heap.size (by rfl) (.tmp 7) (.tmp 9) 30 3 (.int .i64 0) 8 rfl Try.underlying30 info3 rfl (by decide) (by omega) v293 y292 l0_1 _ _ _ (fun _=>True) (fun _=>False) (by first | rfl | exact ev_ e7) (by first | rfl | exact ev_ e9) ?aO ?aR (fun _ _ h=>h) (fun _ h=>h.elim) ?aF ?aB ?aS ?aL ?_
   (case aR=>repeat (first | exact (Kd.C_below HR0_1.out HB.out) | (with_reducible refine Kd.C_alloc ?_ _) | (with_reducible refine Kd.C_drewN ?_ _) | (with_reducible refine Kd.C_drew ?_)))
   (case aB=>exact (rb2 GE284.out GE285.out HB.out))
   (case aF=>exact (fun _ _=>trivial))
   (case aO=>exact (rr HO294.out))
   (case aS=>exact (below_size (rb2 GE284.out GE285.out HB.out)))
   (case aL=>have:=LMc3.out;omega)
   intro v296 w15 ho hb hg hat
   rw [← Ny295.out] at ho
   have n_ : _∧_∧_∧_∧_:=⟨kg BK284 HO294 hg,kg BK285 HO294 hg,ak (Kd.R_over' (rr HO291.out) (Kd.R_typed (rr HO294.out)) (by decide) hg),ak (hb),ak (ho)⟩
   have z_HO300:=fun (h0_ : b 8 = true) (h1_ : b 11 = false)=>(show Kd.R k127 127 w15 w.heap.size (fun _=>True) v299 y298 from zm (Kd.R_over' (by (with_reducible repeat (first | apply Kd.R_alloc | apply Kd.R_drewN | apply Kd.R_drew));exact (Q_HO300 h0_ h1_)) (Kd.R_typed (rr HO294.out)) (by decide) hg))
   have z_HO306:=fun (h0_ : b 14 = true) (h1_ : b 17 = false)=>(show Kd.R (Kd.int .i64) 3 w15 w.heap.size (fun _=>True) v305 y304 from zm (Kd.R_after (ok:=(fun _=>True)) (by (with_reducible repeat (first | apply Kd.R_alloc | apply Kd.R_drewN | apply Kd.R_drew));exact Kd.R_mono (rap (Q_HO306 h0_ h1_) (Ap.symm (Q_AP293_305 (hn hon 4) hb_ h0_ h1_))) (fun _ hk=>⟨trivial,hk⟩)) hg hat))
   have z_AP296_305:=fun (_ : up b 7 7 = true) (g1_ : b 14 = true) (g2_ : b 17 = false)=>(show Ap v296 v305 from ap_app hat (Q_AP293_305 (hn hon 4) hb_ g1_ g2_) (Q_HO306 g1_ g2_))
   clear BK284 BK285 HO291 HB HO294 ho hb hg hat
   obtain ⟨BK284,BK285,HO291,HB,HO297⟩:=n_
   refine hK.out _ _ ⟨v287,v290,v293,v296,v299,v302,v305,v308,m18_,(by rw [ha.out];exact putSel_upk 5 hb_ rfl rfl rfl),(rk BK284.out),fun _=>(rk BK285.out),(rb2 GE284.out GE285.out HB.out),fun _ h1_=>absurd ((hn hon 3).symm.trans h1_) (by decide),fun _=>(rr HO291.out),fun _ h1_=>absurd ((up_self b 7).symm.trans h1_) (by decide),fun _=>(rr (Kd.R_mono HO297.out (fun _ _=>trivial))),z_HO300,nx (hn hoff 11),z_HO306,nx (hn hoff 17),nx (hn hoff 19),nx (hn hoff 18),fun _ h1_=>absurd ((up_self b 7).symm.trans h1_) (by decide),fun _ h1_=>absurd ((up_self b 7).symm.trans h1_) (by decide),z_AP296_305,fun _=>nx (hn hoff 17)⟩
  refine steps_cons ?_ ?_
  ·rintro b a w' ⟨v287,v290,v293,v296,v299,v302,v305,v308,m18_,ha,Q_BK284,Q_BK285,Q_HB,Q_HO288,Q_HO291,Q_HO294,Q_HO297,Q_HO300,Q_HO303,Q_HO306,Q_HO309,Q_BK285_e19,Q_X18_,Q_AP293_305,Q_AP293_308,Q_AP296_305,Q_AP296_308⟩ hb_ hon hoff
   refine ⟨_,rfl,fun K hK=>?_⟩
   replace ha:=ak ha
   have BK284:=ak Q_BK284
   have BK285:=ak (Q_BK285 (hn hoff 19))
   have HB:=ak Q_HB
   refine Kd.R_lit_step k127 _ 127 ?hg (N:=11) ?hd (xs:=([] : List (S127))) (inner:=[]) (ok:=fun _=>True) (okp:=fun _=>True) ?hr ?hp (fun _ hk=>hk) trivial (Below.refl _ _) (Nat.le_refl _) (by simp) ?_;(case hd=>rfl);(case hg=>rfl);(case hr=>first | (go_simp;done) | (go_simp;rfl));(case hp=>exact (Reps.none _ _))
   intro v299 w9 ho10 hb hg_ hnew_
   clear hg_ hnew_
   (first | rw [← Ny298.out] at ho10 | (simp only [Int.reduceToNat] at ho10;rw [← Ny298.out] at ho10))
   have n_ : _∧_∧_∧_:=⟨kl ho10 HB,kb BK284 hb,kb BK285 hb,kh HB hb⟩
   have z_HO288:=fun (h0_ : b 0 = true) (h1_ : b 3 = false)=>(show Kd.R k134 134 w9 w.heap.size (fun _=>True) v287 y286 from zm (Kd.R_below (by (with_reducible repeat (first | apply Kd.R_alloc | apply Kd.R_drewN | apply Kd.R_drew));exact (Q_HO288 h0_ h1_)) hb))
   have z_HO291:=fun (h0_ : b 3 = true)=>(show Kd.R k134 134 w9 w.heap.size (fun _=>True) v290 y289 from zm (Kd.R_below (by (with_reducible repeat (first | apply Kd.R_alloc | apply Kd.R_drewN | apply Kd.R_drew));exact (Q_HO291 h0_)) hb))
   have z_HO294:=fun (h0_ : b 4 = true) (h1_ : b 7 = false)=>(show Kd.R (Kd.int .i64) 3 w9 w.heap.size (fun _=>True) v293 y292 from zm (Kd.R_below (by (with_reducible repeat (first | apply Kd.R_alloc | apply Kd.R_drewN | apply Kd.R_drew));exact (Q_HO294 h0_ h1_)) hb))
   have z_HO297:=fun (h0_ : b 7 = true)=>(show Kd.R (Kd.int .i64) 3 w9 w.heap.size (fun _=>True) v296 y295 from zm (Kd.R_below (by (with_reducible repeat (first | apply Kd.R_alloc | apply Kd.R_drewN | apply Kd.R_drew));exact (Q_HO297 h0_)) hb))
   have z_HO306:=fun (h0_ : b 14 = true) (h1_ : b 17 = false)=>(show Kd.R (Kd.int .i64) 3 w9 w.heap.size (fun _=>True) v305 y304 from zm (Kd.R_below (by (with_reducible repeat (first | apply Kd.R_alloc | apply Kd.R_drewN | apply Kd.R_drew));exact (Q_HO306 h0_ h1_)) hb))
   clear BK284 BK285 HB hb ho10
   obtain ⟨HO300,BK284,BK285,HB⟩:=n_
   refine hK.out _ _ ⟨v287,v290,v293,v296,v299,v302,v305,v308,m18_,(by rw [ha.out];exact putSel_upk 6 hb_ rfl rfl rfl),(rk BK284.out),fun _=>(rk BK285.out),(rb2 GE284.out GE285.out HB.out),z_HO288,z_HO291,z_HO294,z_HO297,fun _ _=>(rr HO300.out),nx (hn hoff 11),z_HO306,nx (hn hoff 17),nx (hn hoff 19),nx (hn hoff 18),Q_AP293_305,Q_AP293_308,Q_AP296_305,Q_AP296_308⟩
  refine steps_cons ?_ ?_
  ·rintro b a w' ⟨v287,v290,v293,v296,v299,v302,v305,v308,m18_,ha,Q_BK284,Q_BK285,Q_HB,Q_HO288,Q_HO291,Q_HO294,Q_HO297,Q_HO300,Q_HO303,Q_HO306,Q_HO309,Q_BK285_e19,Q_X18_,Q_AP293_305,Q_AP293_308,Q_AP296_305,Q_AP296_308⟩ hb_ hon hoff
   refine ⟨_,rfl,fun K hK=>?_⟩
   have e12 : a.tmps[12]? = some (.pointer (some ⟨gb284,2,none⟩)):=by rw [ha];exact (putSel_off rfl).trans rfl
   replace ha:=ak ha
   have BK284:=ak Q_BK284
   have BK285:=ak (Q_BK285 (hn hoff 19))
   have HB:=ak Q_HB
   have hc0_ : w'.cell? ⟨gb284,0,none⟩ = some (.slice A0_0 l0_0.length c0_0):=(blk_cell BK284.out 0).trans rfl
   have hc1_ : w'.cell? ⟨gb284,1,none⟩ = some (.slice A0_1 l0_1.length c0_1):=(blk_cell BK284.out 1).trans rfl
   have hc2_ : w'.cell? ⟨gb284,2,none⟩ = some (.slice A0_2 l0_2.length c0_2):=(blk_cell BK284.out 2).trans rfl
   have hc3_ : w'.cell? ⟨gb284,3,none⟩ = some (.int .i64 a0_3):=(blk_cell BK284.out 3).trans rfl
   have hc4_ : w'.cell? ⟨gb284,4,none⟩ = some (.slice A0_4 l0_4.length c0_4):=(blk_cell BK284.out 4).trans rfl
   refine value_ (w1:=w') (v:=.slice A0_2 l0_2.length c0_2) (by rfl) rfl ?_ ?_
   ·go_simp
    (try simp only [i64_w])
    try rfl
   refine hK.out _ _ ⟨v287,v290,v293,v296,v299,v302,v305,v308,m18_,(by rw [ha.out];exact putSel_upk 7 hb_ rfl rfl rfl),Q_BK284,Q_BK285,Q_HB,Q_HO288,Q_HO291,Q_HO294,Q_HO297,Q_HO300,nx (hn hoff 11),Q_HO306,nx (hn hoff 17),nx (hn hoff 19),nx (hn hoff 18),Q_AP293_305,Q_AP293_308,Q_AP296_305,Q_AP296_308⟩
  refine steps_cons ?_ ?_
  ·rintro b a w' ⟨v287,v290,v293,v296,v299,v302,v305,v308,m18_,ha,Q_BK284,Q_BK285,Q_HB,Q_HO288,Q_HO291,Q_HO294,Q_HO297,Q_HO300,Q_HO303,Q_HO306,Q_HO309,Q_BK285_e19,Q_X18_,Q_AP293_305,Q_AP293_308,Q_AP296_305,Q_AP296_308⟩ hb_ hon hoff
   refine ⟨_,rfl,fun K hK=>?_⟩
   have e11 : a.tmps[11]? = some (v299):=by rw [ha];exact putSel_on (e:=(8,11,v299)) 6 rfl rfl (hn hon 8) rfl
   have e13 : a.tmps[13]? = some (.slice A0_2 l0_2.length c0_2):=by rw [ha];exact putSel_on (e:=(10,13,.slice A0_2 l0_2.length c0_2)) 7 rfl rfl (hn hon 10) rfl
   replace ha:=ak ha
   have BK284:=ak Q_BK284
   have BK285:=ak (Q_BK285 (hn hoff 19))
   have HB:=ak Q_HB
   have HO291:=ak (Q_HO291 (hn hon 3))
   have HO297:=ak (Q_HO297 (hn hon 7))
   have HO300:=ak (Q_HO300 (hn hon 8) hb_)
   refine Kd.R_append_rows_step k127 (w0:=w) w.heap.size (by rfl) (.tmp 11) (.tmp 13) 49 127 (.agg #[(.int .i64 0),(.int .i64 0),(.int .i64 0),(.int .i64 0),(.int .i64 0),(.int .i64 0)]) 48 rfl Try.underlying49 info127 rfl (by decide) (by omega) v299 y298 l0_2 _ _ _ (fun _=>True) (fun _=>False) (by first | rfl | exact ev_ e11) (by first | rfl | exact ev_ e13) ?aO ?aR (fun _ _ h=>h) (fun _ h=>h.elim) ?aF ?aB ?aS ?aL ?_
   (case aR=>repeat (first | exact (Kd.C_below HR0_2.out HB.out) | (with_reducible refine Kd.C_alloc ?_ _) | (with_reducible refine Kd.C_drewN ?_ _) | (with_reducible refine Kd.C_drew ?_)))
   (case aB=>exact (rb2 GE284.out GE285.out HB.out))
   (case aF=>exact (fun _ _=>trivial))
   (case aO=>exact (rr HO300.out))
   (case aS=>exact (below_size (rb2 GE284.out GE285.out HB.out)))
   (case aL=>have:=LMc4.out;omega)
   intro v302 w18 ho hb hg hat
   rw [← Ny301.out] at ho
   have n_ : _∧_∧_∧_∧_∧_:=⟨kg BK284 HO300 hg,kg BK285 HO300 hg,ak (Kd.R_over' (rr HO291.out) (Kd.R_typed (rr HO300.out)) (by decide) hg),ak (Kd.R_over' (rr HO297.out) (Kd.R_typed (rr HO300.out)) (by decide) hg),ak (hb),ak (ho)⟩
   have z_HO306:=fun (h0_ : b 14 = true) (h1_ : b 17 = false)=>(show Kd.R (Kd.int .i64) 3 w18 w.heap.size (fun _=>True) v305 y304 from zm (Kd.R_over' (by (with_reducible repeat (first | apply Kd.R_alloc | apply Kd.R_drewN | apply Kd.R_drew));exact (Q_HO306 h0_ h1_)) (Kd.R_typed (rr HO300.out)) (by decide) hg))
   clear BK284 BK285 HO291 HO297 HB HO300 ho hb hg hat
   obtain ⟨BK284,BK285,HO291,HO297,HB,HO303⟩:=n_
   refine hK.out _ _ ⟨v287,v290,v293,v296,v299,v302,v305,v308,m18_,(by rw [ha.out];exact putSel_upk 8 hb_ rfl rfl rfl),(rk BK284.out),fun _=>(rk BK285.out),(rb2 GE284.out GE285.out HB.out),fun _ h1_=>absurd ((hn hon 3).symm.trans h1_) (by decide),fun _=>(rr HO291.out),fun _ h1_=>absurd ((hn hon 7).symm.trans h1_) (by decide),fun _=>(rr (Kd.R_mono HO297.out (fun _ _=>trivial))),fun _ h1_=>absurd ((up_self b 11).symm.trans h1_) (by decide),fun _=>(rr HO303.out),z_HO306,nx (hn hoff 17),nx (hn hoff 19),nx (hn hoff 18),Q_AP293_305,Q_AP293_308,Q_AP296_305,Q_AP296_308⟩
  refine steps_cons ?_ ?_
  ·rintro b a w' ⟨v287,v290,v293,v296,v299,v302,v305,v308,m18_,ha,Q_BK284,Q_BK285,Q_HB,Q_HO288,Q_HO291,Q_HO294,Q_HO297,Q_HO300,Q_HO303,Q_HO306,Q_HO309,Q_BK285_e19,Q_X18_,Q_AP293_305,Q_AP293_308,Q_AP296_305,Q_AP296_308⟩ hb_ hon hoff
   refine ⟨_,rfl,fun K hK=>?_⟩
   have e15 : a.tmps[15]? = some (.pointer (some ⟨gb284,3,none⟩)):=by rw [ha];exact (putSel_off rfl).trans rfl
   replace ha:=ak ha
   have BK284:=ak Q_BK284
   have BK285:=ak (Q_BK285 (hn hoff 19))
   have HB:=ak Q_HB
   have hc0_ : w'.cell? ⟨gb284,0,none⟩ = some (.slice A0_0 l0_0.length c0_0):=(blk_cell BK284.out 0).trans rfl
   have hc1_ : w'.cell? ⟨gb284,1,none⟩ = some (.slice A0_1 l0_1.length c0_1):=(blk_cell BK284.out 1).trans rfl
   have hc2_ : w'.cell? ⟨gb284,2,none⟩ = some (.slice A0_2 l0_2.length c0_2):=(blk_cell BK284.out 2).trans rfl
   have hc3_ : w'.cell? ⟨gb284,3,none⟩ = some (.int .i64 a0_3):=(blk_cell BK284.out 3).trans rfl
   have hc4_ : w'.cell? ⟨gb284,4,none⟩ = some (.slice A0_4 l0_4.length c0_4):=(blk_cell BK284.out 4).trans rfl
   refine value_ (w1:=w') (v:=.int .i64 a0_3) (by rfl) rfl ?_ ?_
   ·go_simp
    (try simp only [i64_w])
    try rfl
   refine hK.out _ _ ⟨v287,v290,v293,v296,v299,v302,v305,v308,m18_,(by rw [ha.out];exact putSel_upk 9 hb_ rfl rfl rfl),Q_BK284,Q_BK285,Q_HB,Q_HO288,Q_HO291,Q_HO294,Q_HO297,Q_HO300,Q_HO303,Q_HO306,Q_HO309,nx (hn hoff 19),nx (hn hoff 18),Q_AP293_305,Q_AP293_308,Q_AP296_305,Q_AP296_308⟩
  refine steps_cons ?_ ?_
  ·rintro b a w' ⟨v287,v290,v293,v296,v299,v302,v305,v308,m18_,ha,Q_BK284,Q_BK285,Q_HB,Q_HO288,Q_HO291,Q_HO294,Q_HO297,Q_HO300,Q_HO303,Q_HO306,Q_HO309,Q_BK285_e19,Q_X18_,Q_AP293_305,Q_AP293_308,Q_AP296_305,Q_AP296_308⟩ hb_ hon hoff
   refine ⟨_,rfl,fun K hK=>?_⟩
   replace ha:=ak ha
   have BK284:=ak Q_BK284
   have BK285:=ak (Q_BK285 (hn hoff 19))
   have HB:=ak Q_HB
   refine Kd.R_lit_step (Kd.int .i64) _ 3 ?hg (N:=17) ?hd (xs:=([] : List Int)) (inner:=[]) (ok:=fun _=>True) (okp:=fun _=>True) ?hr ?hp (fun _ hk=>hk) trivial (Below.refl _ _) (Nat.le_refl _) (by simp) ?_;(case hd=>rfl);(case hg=>rfl);(case hr=>first | (go_simp;done) | (go_simp;rfl));(case hp=>exact (Reps.none _ _))
   intro v305 w9 ho10 hb hg_ hnew_
   clear hg_ hnew_
   (first | rw [← Ny304.out] at ho10 | (simp only [Int.reduceToNat] at ho10;rw [← Ny304.out] at ho10))
   have n_ : _∧_∧_∧_:=⟨kl ho10 HB,kb BK284 hb,kb BK285 hb,kh HB hb⟩
   have z_HO288:=fun (h0_ : b 0 = true) (h1_ : b 3 = false)=>(show Kd.R k134 134 w9 w.heap.size (fun _=>True) v287 y286 from zm (Kd.R_below (by (with_reducible repeat (first | apply Kd.R_alloc | apply Kd.R_drewN | apply Kd.R_drew));exact (Q_HO288 h0_ h1_)) hb))
   have z_HO291:=fun (h0_ : b 3 = true)=>(show Kd.R k134 134 w9 w.heap.size (fun _=>True) v290 y289 from zm (Kd.R_below (by (with_reducible repeat (first | apply Kd.R_alloc | apply Kd.R_drewN | apply Kd.R_drew));exact (Q_HO291 h0_)) hb))
   have z_HO294:=fun (h0_ : b 4 = true) (h1_ : b 7 = false)=>(show Kd.R (Kd.int .i64) 3 w9 w.heap.size (fun _=>True) v293 y292 from zm (Kd.R_elder' (by (with_reducible repeat (first | apply Kd.R_alloc | apply Kd.R_drewN | apply Kd.R_drew));exact (Q_HO294 h0_ h1_)) (Kd.R_base ho10) hb))
   have z_HO297:=fun (h0_ : b 7 = true)=>(show Kd.R (Kd.int .i64) 3 w9 w.heap.size (fun _=>True) v296 y295 from zm (Kd.R_elder' (by (with_reducible repeat (first | apply Kd.R_alloc | apply Kd.R_drewN | apply Kd.R_drew));exact (Q_HO297 h0_)) (Kd.R_base ho10) hb))
   have z_HO300:=fun (h0_ : b 8 = true) (h1_ : b 11 = false)=>(show Kd.R k127 127 w9 w.heap.size (fun _=>True) v299 y298 from zm (Kd.R_below (by (with_reducible repeat (first | apply Kd.R_alloc | apply Kd.R_drewN | apply Kd.R_drew));exact (Q_HO300 h0_ h1_)) hb))
   have z_HO303:=fun (h0_ : b 11 = true)=>(show Kd.R k127 127 w9 w.heap.size (fun _=>True) v302 y301 from zm (Kd.R_below (by (with_reducible repeat (first | apply Kd.R_alloc | apply Kd.R_drewN | apply Kd.R_drew));exact (Q_HO303 h0_)) hb))
   have z_AP293_305:=fun (g1_ : b 4 = true) (g2_ : b 7 = false) (_ : up b 14 14 = true) (_ : up b 14 17 = false)=>(show Ap v293 v305 from (ap_new ho10 (Q_HO294 g1_ g2_)).symm)
   have z_AP296_305:=fun (g1_ : b 7 = true) (_ : up b 14 14 = true) (_ : up b 14 17 = false)=>(show Ap v296 v305 from (ap_new ho10 (Q_HO297 g1_)).symm)
   clear BK284 BK285 HB hb ho10
   obtain ⟨HO306,BK284,BK285,HB⟩:=n_
   refine hK.out _ _ ⟨v287,v290,v293,v296,v299,v302,v305,v308,m18_,(by rw [ha.out];exact putSel_upk 10 hb_ rfl rfl rfl),(rk BK284.out),fun _=>(rk BK285.out),(rb2 GE284.out GE285.out HB.out),z_HO288,z_HO291,z_HO294,z_HO297,z_HO300,z_HO303,fun _ _=>(rr (Kd.R_mono HO306.out (fun _ _=>trivial))),nx (hn hoff 17),nx (hn hoff 19),nx (hn hoff 18),z_AP293_305,Q_AP293_308,z_AP296_305,Q_AP296_308⟩
  refine steps_cons ?_ ?_
  ·rintro b a w' ⟨v287,v290,v293,v296,v299,v302,v305,v308,m18_,ha,Q_BK284,Q_BK285,Q_HB,Q_HO288,Q_HO291,Q_HO294,Q_HO297,Q_HO300,Q_HO303,Q_HO306,Q_HO309,Q_BK285_e19,Q_X18_,Q_AP293_305,Q_AP293_308,Q_AP296_305,Q_AP296_308⟩ hb_ hon hoff
   refine ⟨_,rfl,fun K hK=>?_⟩
   have e18 : a.tmps[18]? = some (.pointer (some ⟨gb284,4,none⟩)):=by rw [ha];exact (putSel_off rfl).trans rfl
   replace ha:=ak ha
   have BK284:=ak Q_BK284
   have BK285:=ak (Q_BK285 (hn hoff 19))
   have HB:=ak Q_HB
   have hc0_ : w'.cell? ⟨gb284,0,none⟩ = some (.slice A0_0 l0_0.length c0_0):=(blk_cell BK284.out 0).trans rfl
   have hc1_ : w'.cell? ⟨gb284,1,none⟩ = some (.slice A0_1 l0_1.length c0_1):=(blk_cell BK284.out 1).trans rfl
   have hc2_ : w'.cell? ⟨gb284,2,none⟩ = some (.slice A0_2 l0_2.length c0_2):=(blk_cell BK284.out 2).trans rfl
   have hc3_ : w'.cell? ⟨gb284,3,none⟩ = some (.int .i64 a0_3):=(blk_cell BK284.out 3).trans rfl
   have hc4_ : w'.cell? ⟨gb284,4,none⟩ = some (.slice A0_4 l0_4.length c0_4):=(blk_cell BK284.out 4).trans rfl
   refine value_ (w1:=w') (v:=.slice A0_4 l0_4.length c0_4) (by rfl) rfl ?_ ?_
   ·go_simp
    (try simp only [i64_w])
    try rfl
   refine hK.out _ _ ⟨v287,v290,v293,v296,v299,v302,v305,v308,m18_,(by rw [ha.out];exact putSel_upk 11 hb_ rfl rfl rfl),Q_BK284,Q_BK285,Q_HB,Q_HO288,Q_HO291,Q_HO294,Q_HO297,Q_HO300,Q_HO303,Q_HO306,nx (hn hoff 17),nx (hn hoff 19),nx (hn hoff 18),Q_AP293_305,Q_AP293_308,Q_AP296_305,Q_AP296_308⟩
  refine steps_cons ?_ ?_
  ·rintro b a w' ⟨v287,v290,v293,v296,v299,v302,v305,v308,m18_,ha,Q_BK284,Q_BK285,Q_HB,Q_HO288,Q_HO291,Q_HO294,Q_HO297,Q_HO300,Q_HO303,Q_HO306,Q_HO309,Q_BK285_e19,Q_X18_,Q_AP293_305,Q_AP293_308,Q_AP296_305,Q_AP296_308⟩ hb_ hon hoff
   refine ⟨_,rfl,fun K hK=>?_⟩
   have e17 : a.tmps[17]? = some (v305):=by rw [ha];exact putSel_on (e:=(14,17,v305)) 10 rfl rfl (hn hon 14) rfl
   have e19 : a.tmps[19]? = some (.slice A0_4 l0_4.length c0_4):=by rw [ha];exact putSel_on (e:=(16,19,.slice A0_4 l0_4.length c0_4)) 11 rfl rfl (hn hon 16) rfl
   replace ha:=ak ha
   have BK284:=ak Q_BK284
   have BK285:=ak (Q_BK285 (hn hoff 19))
   have HB:=ak Q_HB
   have HO291:=ak (Q_HO291 (hn hon 3))
   have HO297:=ak (rap (Q_HO297 (hn hon 7)) (Q_AP296_305 (hn hon 7) (hn hon 14) hb_))
   have HO303:=ak (Q_HO303 (hn hon 11))
   have HO306:=ak (rap (Q_HO306 (hn hon 14) hb_) (Ap.symm (Q_AP296_305 (hn hon 7) (hn hon 14) hb_)))
   refine Kd.R_append_rows_step (Kd.int .i64) (w0:=w) w.heap.size (by rfl) (.tmp 17) (.tmp 19) 30 3 (.int .i64 0) 8 rfl Try.underlying30 info3 rfl (by decide) (by omega) v305 y304 l0_4 _ _ _ (fun k_=>some k_ ≠ (v296 : Value).ownBlock) (fun _=>False) (by first | rfl | exact ev_ e17) (by first | rfl | exact ev_ e19) ?aO ?aR (fun _ _ h=>h) (fun _ h=>h.elim) ?aF ?aB ?aS ?aL ?_
   (case aR=>repeat (first | exact (Kd.C_below HR0_4.out HB.out) | (with_reducible refine Kd.C_alloc ?_ _) | (with_reducible refine Kd.C_drewN ?_ _) | (with_reducible refine Kd.C_drew ?_)))
   (case aB=>exact (rb2 GE284.out GE285.out HB.out))
   (case aF=>exact (fun k_ hk=>Kd.fresh' (Kd.R_lt (rr HO297.out)) k_ hk))
   (case aO=>exact (rr HO306.out))
   (case aS=>exact (below_size (rb2 GE284.out GE285.out HB.out)))
   (case aL=>have:=LMc5.out;omega)
   intro v308 w21 ho hb hg hat
   rw [← Ny307.out] at ho
   have n_ : _∧_∧_∧_∧_∧_∧_:=⟨kg BK284 HO306 hg,kg BK285 HO306 hg,ak (Kd.R_over' (rr HO291.out) (Kd.R_typed (rr HO306.out)) (by decide) hg),ak (Kd.R_after (ok:=(fun _=>True)) (by (with_reducible repeat (first | apply Kd.R_alloc | apply Kd.R_drewN | apply Kd.R_drew));exact Kd.R_mono HO297.out (fun _ hk=>⟨trivial,hk⟩)) hg hat),ak (Kd.R_over' (rr HO303.out) (Kd.R_typed (rr HO306.out)) (by decide) hg),ak (hb),ak (ho)⟩
   have z_AP296_308:=fun (g1_ : b 7 = true) (_ : up b 17 17 = true)=>(show Ap v296 v308 from (ap_app hat (Ap.symm (Q_AP296_305 g1_ (hn hon 14) hb_)) (Q_HO297 g1_)).symm)
   clear BK284 BK285 HO291 HO297 HO303 HB HO306 ho hb hg hat
   obtain ⟨BK284,BK285,HO291,HO297,HO303,HB,HO309⟩:=n_
   obtain ⟨Ao22,co22,eo22⟩:=Kd.R_slice HO309.out
   (first | subst eo22 | (injection eo22 with f1_ f2_ f3_;have f4_:=f1_.symm;have f5_:=f3_.symm;clear f1_ f2_ f3_;subst f4_;subst f5_))
   obtain ⟨Ao23,co23,eo23⟩:=Kd.R_slice HO303.out
   (first | subst eo23 | (injection eo23 with f1_ f2_ f3_;have f4_:=f1_.symm;have f5_:=f3_.symm;clear f1_ f2_ f3_;subst f4_;subst f5_))
   obtain ⟨Ao24,co24,eo24⟩:=Kd.R_slice HO297.out
   (first | subst eo24 | (injection eo24 with f1_ f2_ f3_;have f4_:=f1_.symm;have f5_:=f3_.symm;clear f1_ f2_ f3_;subst f4_;subst f5_))
   obtain ⟨Ao25,co25,eo25⟩:=Kd.R_slice HO291.out
   (first | subst eo25 | (injection eo25 with f1_ f2_ f3_;have f4_:=f1_.symm;have f5_:=f3_.symm;clear f1_ f2_ f3_;subst f4_;subst f5_))
   refine hK.out _ _ ⟨v287,.slice Ao25 y289.length co25,v293,.slice Ao24 y295.length co24,v299,.slice Ao23 y301.length co23,v305,.slice Ao22 y307.length co22,m18_,(by rw [ha.out];exact putSel_upk 12 hb_ rfl rfl rfl),(rk BK284.out),fun _=>(rk BK285.out),(rb2 GE284.out GE285.out HB.out),fun _ h1_=>absurd ((hn hon 3).symm.trans h1_) (by decide),fun _=>(rr HO291.out),fun _ h1_=>absurd ((hn hon 7).symm.trans h1_) (by decide),fun _=>(rr (Kd.R_mono HO297.out (fun _ _=>trivial))),fun _ h1_=>absurd ((hn hon 11).symm.trans h1_) (by decide),fun _=>(rr HO303.out),fun _ h1_=>absurd ((up_self b 17).symm.trans h1_) (by decide),fun _=>(rr (Kd.R_mono HO309.out (fun _ _=>trivial))),nx (hn hoff 19),nx (hn hoff 18),fun _ h1_=>absurd ((hn hon 7).symm.trans h1_) (by decide),fun _ h1_=>absurd ((hn hon 7).symm.trans h1_) (by decide),fun _ _ h1_=>absurd ((up_self b 17).symm.trans h1_) (by decide),z_AP296_308⟩
  refine steps_cons ?_ ?_
  ·rintro b a w' ⟨v287,v290,v293,v296,v299,v302,v305,v308,m18_,ha,Q_BK284,Q_BK285,Q_HB,Q_HO288,Q_HO291,Q_HO294,Q_HO297,Q_HO300,Q_HO303,Q_HO306,Q_HO309,Q_BK285_e19,Q_X18_,Q_AP293_305,Q_AP293_308,Q_AP296_305,Q_AP296_308⟩ hb_ hon hoff
   refine ⟨_,rfl,fun K hK=>?_⟩
   have e6 : a.tmps[6]? = some (v290):=by rw [ha];exact putSel_on (e:=(3,6,v290)) 2 rfl rfl (hn hon 3) rfl
   have e10 : a.tmps[10]? = some (v296):=by rw [ha];exact putSel_on (e:=(7,10,v296)) 5 rfl rfl (hn hon 7) rfl
   have e14 : a.tmps[14]? = some (v302):=by rw [ha];exact putSel_on (e:=(11,14,v302)) 8 rfl rfl (hn hon 11) rfl
   have e16 : a.tmps[16]? = some (.int .i64 a0_3):=by rw [ha];exact putSel_on (e:=(13,16,.int .i64 a0_3)) 9 rfl rfl (hn hon 13) rfl
   have e20 : a.tmps[20]? = some (v308):=by rw [ha];exact putSel_on (e:=(17,20,v308)) 12 rfl rfl (hn hon 17) rfl
   replace ha:=ak ha
   have BK284:=ak Q_BK284
   have BK285:=ak (Q_BK285 (hn hoff 19))
   have HB:=ak Q_HB
   have HO291:=ak (Q_HO291 (hn hon 3))
   have HO297:=ak (Q_HO297 (hn hon 7))
   have HO303:=ak (Q_HO303 (hn hon 11))
   have HO309:=ak (Q_HO309 (hn hon 17))
   obtain ⟨Ao18_0,co18_0,eo_⟩:=Kd.R_slice HO291.out
   subst eo_
   obtain ⟨Ao18_1,co18_1,eo_⟩:=Kd.R_slice HO297.out
   subst eo_
   obtain ⟨Ao18_2,co18_2,eo_⟩:=Kd.R_slice HO303.out
   subst eo_
   obtain ⟨Ao18_3,co18_3,eo_⟩:=Kd.R_slice HO309.out
   subst eo_
   refine value_ (w1:=w') (v:=.agg #[.slice Ao18_0 y289.length co18_0,.slice Ao18_1 y295.length co18_1,.slice Ao18_2 y301.length co18_2,.int .i64 a0_3,.slice Ao18_3 y307.length co18_3]) (by rfl) rfl ?_ ?_
   ·go_simp
    (try simp only [i64_w])
    try rfl
   refine hK.out _ _ ⟨v287,.slice Ao18_0 y289.length co18_0,v293,.slice Ao18_1 y295.length co18_1,v299,.slice Ao18_2 y301.length co18_2,v305,.slice Ao18_3 y307.length co18_3,(.agg #[.slice Ao18_0 y289.length co18_0,.slice Ao18_1 y295.length co18_1,.slice Ao18_2 y301.length co18_2,.int .i64 a0_3,.slice Ao18_3 y307.length co18_3]),(by rw [ha.out];exact putSel_upk 13 hb_ rfl rfl rfl),Q_BK284,Q_BK285,Q_HB,fun _ h1_=>absurd ((hn hon 3).symm.trans h1_) (by decide),Q_HO291,fun _ h1_=>absurd ((hn hon 7).symm.trans h1_) (by decide),Q_HO297,fun _ h1_=>absurd ((hn hon 11).symm.trans h1_) (by decide),Q_HO303,fun _ h1_=>absurd ((hn hon 17).symm.trans h1_) (by decide),Q_HO309,nx (hn hoff 19),fun _=>rfl,Q_AP293_305,Q_AP293_308,Q_AP296_305,Q_AP296_308⟩
  refine steps_cons ?_ ?_
  ·rintro b a w' ⟨v287,v290,v293,v296,v299,v302,v305,v308,m18_,ha,Q_BK284,Q_BK285,Q_HB,Q_HO288,Q_HO291,Q_HO294,Q_HO297,Q_HO300,Q_HO303,Q_HO306,Q_HO309,Q_BK285_e19,Q_X18_,Q_AP293_305,Q_AP293_308,Q_AP296_305,Q_AP296_308⟩ hb_ hon hoff
   refine ⟨_,rfl,fun K hK=>?_⟩
   have e2 : a.tmps[2]? = some (.pointer (some ⟨gb285,0,none⟩)):=by rw [ha];exact (putSel_off rfl).trans rfl
   have e21 : a.tmps[21]? = some (m18_):=by rw [ha];exact putSel_on (e:=(18,21,m18_)) 13 rfl rfl (hn hon 18) rfl
   rw [Q_X18_ (hn hon 18)] at e21
   replace ha:=ak ha
   have BK284:=ak Q_BK284
   have BK285:=ak (Q_BK285 hb_)
   have HB:=ak Q_HB
   have HO291:=ak (Q_HO291 (hn hon 3))
   have HO297:=ak (Q_HO297 (hn hon 7))
   have HO303:=ak (Q_HO303 (hn hon 11))
   have HO309:=ak (Q_HO309 (hn hon 17))
   obtain ⟨Ao26,co26,eo26⟩:=Kd.R_slice HO309.out
   (first | subst eo26 | (injection eo26 with f1_ f2_ f3_;have f4_:=f1_.symm;have f5_:=f3_.symm;clear f1_ f2_ f3_;subst f4_;subst f5_))
   obtain ⟨Ao27,co27,eo27⟩:=Kd.R_slice HO303.out
   (first | subst eo27 | (injection eo27 with f1_ f2_ f3_;have f4_:=f1_.symm;have f5_:=f3_.symm;clear f1_ f2_ f3_;subst f4_;subst f5_))
   obtain ⟨Ao28,co28,eo28⟩:=Kd.R_slice HO297.out
   (first | subst eo28 | (injection eo28 with f1_ f2_ f3_;have f4_:=f1_.symm;have f5_:=f3_.symm;clear f1_ f2_ f3_;subst f4_;subst f5_))
   obtain ⟨Ao29,co29,eo29⟩:=Kd.R_slice HO291.out
   (first | subst eo29 | (injection eo29 with f1_ f2_ f3_;have f4_:=f1_.symm;have f5_:=f3_.symm;clear f1_ f2_ f3_;subst f4_;subst f5_))
   have hs30 : w'.cell? ⟨gb285,0,none⟩ = some (.slice none 0 0):=(blk_cell BK285.out 0).trans rfl
   have hfs30:=blk_frozen BK285.out 0
   have hns30_0:=NB284_285.out
   have hms30_0:=NB285_284.out
   have hs31 : w'.cell? ⟨gb285,1,none⟩ = some (.slice none 0 0):=(blk_cell BK285.out 1).trans rfl
   have hfs31:=blk_frozen BK285.out 1
   have hns31_0:=NB284_285.out
   have hms31_0:=NB285_284.out
   have hs32 : w'.cell? ⟨gb285,2,none⟩ = some (.slice none 0 0):=(blk_cell BK285.out 2).trans rfl
   have hfs32:=blk_frozen BK285.out 2
   have hns32_0:=NB284_285.out
   have hms32_0:=NB285_284.out
   have hs33 : w'.cell? ⟨gb285,3,none⟩ = some (.int .i64 0):=(blk_cell BK285.out 3).trans rfl
   have hfs33:=blk_frozen BK285.out 3
   have hns33_0:=NB284_285.out
   have hms33_0:=NB285_284.out
   have hs34 : w'.cell? ⟨gb285,4,none⟩ = some (.slice none 0 0):=(blk_cell BK285.out 4).trans rfl
   have hfs34:=blk_frozen BK285.out 4
   have hns34_0:=NB284_285.out
   have hms34_0:=NB285_284.out
   refine skip_ (w1:=?_) (by rfl) rfl ?_ ?_
   rotate_left
   ·go_simp
    rfl
   refine hK.out _ _ ⟨v287,.slice Ao29 y289.length co29,v293,.slice Ao28 y295.length co28,v299,.slice Ao27 y301.length co27,v305,.slice Ao26 y307.length co26,m18_,(by rw [ha.out];exact putSel_none (v:=undef) rfl),(kq BK284),fun h0_=>absurd ((up_self b 19).symm.trans h0_) (by decide),(rb2 GE284.out GE285.out HB.out),fun _ h1_=>absurd ((hn hon 3).symm.trans h1_) (by decide),fun _=>(rfa HO291),fun _ h1_=>absurd ((hn hon 7).symm.trans h1_) (by decide),fun _=>(rfa HO297),fun _ h1_=>absurd ((hn hon 11).symm.trans h1_) (by decide),fun _=>(rfa HO303),fun _ h1_=>absurd ((hn hon 17).symm.trans h1_) (by decide),fun _=>(rfa HO309),fun _=>(kq BK285),Q_X18_,Q_AP293_305,Q_AP293_308,Q_AP296_305,Q_AP296_308⟩
  exact steps_nil
 rintro b a w30 hall ⟨v287,v290,v293,v296,v299,v302,v305,v308,m18_,ha,Q_BK284,Q_BK285,Q_HB,Q_HO288,Q_HO291,Q_HO294,Q_HO297,Q_HO300,Q_HO303,Q_HO306,Q_HO309,Q_BK285_e19,Q_X18_,Q_AP293_305,Q_AP293_308,Q_AP296_305,Q_AP296_308⟩
 clear BK284 BK285 HB
 have hb0_:=hall 0 (by kernel_rfl)
 have hb2_:=hall 2 (by kernel_rfl)
 have hb3_:=hall 3 (by kernel_rfl)
 have hb4_:=hall 4 (by kernel_rfl)
 have hb6_:=hall 6 (by kernel_rfl)
 have hb7_:=hall 7 (by kernel_rfl)
 have hb8_:=hall 8 (by kernel_rfl)
 have hb10_:=hall 10 (by kernel_rfl)
 have hb11_:=hall 11 (by kernel_rfl)
 have hb13_:=hall 13 (by kernel_rfl)
 have hb14_:=hall 14 (by kernel_rfl)
 have hb16_:=hall 16 (by kernel_rfl)
 have hb17_:=hall 17 (by kernel_rfl)
 have hb18_:=hall 18 (by kernel_rfl)
 have hb19_:=hall 19 (by kernel_rfl)
 subst ha
 obtain rfl:=Q_X18_ hb18_
 simp only [putSel,hb0_,hb2_,hb3_,hb4_,hb6_,hb7_,hb8_,hb10_,hb11_,hb13_,hb14_,hb16_,hb17_,hb18_,hb19_,if_true,Act.put,List.setIfInBounds_toArray,List.set_cons_zero,List.set_cons_succ]
 have BK284:=ak Q_BK284
 clear Q_BK284 Q_BK285
 have HB:=ak Q_HB
 clear Q_HB Q_HO288
 have HO291:=ak (Q_HO291 hb3_)
 clear Q_HO291 Q_HO294
 have HO297:=ak (rap (Q_HO297 hb7_) (Q_AP296_308 hb7_ hb17_))
 clear Q_HO297 Q_HO300
 have HO303:=ak (Q_HO303 hb11_)
 clear Q_HO303 Q_HO306
 have HO309:=ak (rap (Q_HO309 hb17_) (Ap.symm (Q_AP296_308 hb7_ hb17_)))
 clear Q_HO309
 have BK285:=ak (Q_BK285_e19 hb19_)
 clear Q_AP293_305 Q_AP293_308 Q_AP296_305 Q_AP296_308 Q_BK285_e19 hall hb0_ hb2_ hb3_ hb4_ hb6_ hb7_ hb8_ hb10_ hb11_ hb13_ hb14_ hb16_ hb17_ hb18_ hb19_
 obtain ⟨Ao31,co31,eo31⟩:=Kd.R_slice HO309.out
 (first | subst eo31 | (injection eo31 with f1_ f2_ f3_;have f4_:=f1_.symm;have f5_:=f3_.symm;clear f1_ f2_ f3_;subst f4_;subst f5_))
 obtain ⟨Ao32,co32,eo32⟩:=Kd.R_slice HO303.out
 (first | subst eo32 | (injection eo32 with f1_ f2_ f3_;have f4_:=f1_.symm;have f5_:=f3_.symm;clear f1_ f2_ f3_;subst f4_;subst f5_))
 obtain ⟨Ao33,co33,eo33⟩:=Kd.R_slice HO297.out
 (first | subst eo33 | (injection eo33 with f1_ f2_ f3_;have f4_:=f1_.symm;have f5_:=f3_.symm;clear f1_ f2_ f3_;subst f4_;subst f5_))
 obtain ⟨Ao34,co34,eo34⟩:=Kd.R_slice HO291.out
 (first | subst eo34 | (injection eo34 with f1_ f2_ f3_;have f4_:=f1_.symm;have f5_:=f3_.symm;clear f1_ f2_ f3_;subst f4_;subst f5_))
 try go_wp2
 refine bodyPost_ret (results_cell_row rfl _ _ gb285 51 #[.slice Ao34 y289.length co34,.slice Ao33 y295.length co33,.slice Ao32 y301.length co32,.int .i64 a0_3,.slice Ao31 y307.length co31] (0,0) _ rfl (rk BK285.out) Try.underlying51 rfl (by kernel_rfl)) rfl ?_
 exact ⟨_,_,_,_,by first | rfl | (simp [errW_none,errW_some] <;> rfl) | (simp [*,errW_none,errW_some] <;> rfl),rr HO291.out,rr HO297.out,rr HO303.out,rr HO309.out,rbx HB⟩

end Go.Proofs.Ythdeicbkimlnhaa.PFnExactKept
