import Derived.Test.YthdeicbkimlnhaaPFnExactKeptx0
import Derived.Test.YthdeicbkimlnhaaPFnExactKeptx2
namespace Go.Proofs.Ythdeicbkimlnhaa.PFnExactKept
open Go.RowKit Go.Proofs.YthdeicbkimlnhaaW.PrintWords Go.Proofs.YthdeicbkimlnhaaW.PrintLast Go.Proofs.YthdeicbkimlnhaaW.PrintMore Go.Proofs.YthdeicbkimlnhaaH
attribute [local go_sem] max2_int min2_int max_two min_two max_three min_three max_four min_four   -- for this text's walks alone
set_option linter.unusedVariables false
set_option linter.unusedSimpArgs false
set_option maxRecDepth 100000

/-! ### laws_toFrame: function 83 -/
def laws_toFrame.f (a0_0 : Int) (a0_1 : Int) (a0_2 : Int) (a0_3 : Int) (a0_4 : Int) (a0_5 : Int) (a0_6 : Int) : Option (Int × Int × Int × Int × Int × Int × Int):=(laws_toItem.f a0_3 a0_4 a0_5 a0_6).bind fun bt363=>(some (a0_0,a0_1,a0_2,bt363.1,bt363.2.1,bt363.2.2.1,bt363.2.2.2))
set_option maxHeartbeats 8000000 in
theorem laws_toFrame.calls (a0_0 : Int) (a0_1 : Int) (a0_2 : Int) (a0_3 : Int) (a0_4 : Int) (a0_5 : Int) (a0_6 : Int) (r1 : Int) (r2 : Int) (r3 : Int) (r4 : Int) (r5 : Int) (r6 : Int) (r7 : Int) (w : World) (h : laws_toFrame.f a0_0 a0_1 a0_2 a0_3 a0_4 a0_5 a0_6 = some (r1,r2,r3,r4,r5,r6,r7)) :
  Calls Try.prog 83 #[.agg #[.int .i64 a0_0,.int .i64 a0_1,.int .i64 a0_2,.int .i64 a0_3,.int .i64 a0_4,.int .i64 a0_5,.int .i64 a0_6]] w fun e w'=>e = .returned (.agg #[.int .i64 r1,.int .i64 r2,.int .i64 r3,.int .i64 r4,.int .i64 r5,.int .i64 r6,.int .i64 r7])∧Below w.heap.size w w':=by
 have hu107:=Try.underlying107
 have hu36:=Try.underlying36
 have hu105:=Try.underlying105
 have hu34:=Try.underlying34
 have HB:=ak (Below.refl w.heap.size w)
 have H:=h
 clear h
 unfold laws_toFrame.f at H
 replace H:=Option.bind_eq_some_iff.mp H
 obtain ⟨⟨t363,t364,t365,t366⟩,A20,H⟩:=H
 try dsimp only at H
 have A2:=ak A20
 clear A20
 simp only [Option.some.injEq,Prod.mk.injEq] at H
 obtain ⟨rfl,rfl,rfl,rfl,rfl,rfl,rfl⟩:=H
 go_enter Try.func83,Try.ntmps83
 go_wp2_with (first | ((with_reducible refine gate_dst (N:=1) rfl ?_);refine box_event ?hg (N:=1) ?hd (cs:=#[.int .i64 a0_0,.int .i64 a0_1,.int .i64 a0_2,.int .i64 a0_3,.int .i64 a0_4,.int .i64 a0_5,.int .i64 a0_6]) (t:=107) ?hr ?_;(case hd=>rfl);(case hg=>rfl);(case hr=>first | (go_simp;done) | (go_simp;rfl));intro gb360 hg w3 hbox hb;have n_ : _∧_∧_∧_:=⟨kh HB hb,ak (hbox),kz HB hg,kz HB hg⟩;clear HB hb hbox hg;obtain ⟨HB,BK360,GW360,GE360⟩:=n_) | ((with_reducible refine gate_dst (N:=2) rfl ?_);refine box_event ?hg (N:=2) ?hd (cs:=#[.int .i64 0,.int .i64 0,.int .i64 0,.int .i64 0,.int .i64 0,.int .i64 0,.int .i64 0]) (t:=36) ?hr ?_;(case hd=>rfl);(case hg=>rfl);(case hr=>first | (go_simp;done) | (go_simp;rfl));intro gb361 hg w4 hbox hb;have n_ : _∧_∧_∧_∧_∧_∧_:=⟨kb BK360 hb,kh HB hb,ak (hbox),kz HB hg,kz HB hg,nl BK360 hg,ng BK360 hg⟩;clear BK360 HB hb hbox hg;obtain ⟨BK360,HB,BK361,GW361,GE361,NB360_361,NB361_360⟩:=n_) | ((with_reducible refine gate_dst (N:=3) rfl ?_);refine box_event ?hg (N:=3) ?hd (cs:=#[.int .i64 0,.int .i64 0,.int .i64 0,.int .i64 0,.int .i64 0,.int .i64 0,.int .i64 0]) (t:=36) ?hr ?_;(case hd=>rfl);(case hg=>rfl);(case hr=>first | (go_simp;done) | (go_simp;rfl));intro gb362 hg w5 hbox hb;have n_ : _∧_∧_∧_∧_∧_∧_∧_∧_∧_:=⟨kb BK360 hb,kb BK361 hb,kh HB hb,ak (hbox),kz HB hg,kz HB hg,nl BK360 hg,ng BK360 hg,nl BK361 hg,ng BK361 hg⟩;clear BK360 BK361 HB hb hbox hg;obtain ⟨BK360,BK361,HB,BK362,GW362,GE362,NB360_362,NB362_360,NB361_362,NB362_361⟩:=n_;have hnb6:=NB360_361.out;have hnc6:=NB361_360.out;have hnb7:=NB360_362.out;have hnc7:=NB362_360.out;have hcz8_0 : w5.cell? ⟨gb360,0,none⟩ = some (.int .i64 a0_0):=(blk_cell BK360.out 0).trans rfl;have hcz8_1 : w5.cell? ⟨gb360,1,none⟩ = some (.int .i64 a0_1):=(blk_cell BK360.out 1).trans rfl;have hcz8_2 : w5.cell? ⟨gb360,2,none⟩ = some (.int .i64 a0_2):=(blk_cell BK360.out 2).trans rfl;have hcz8_3 : w5.cell? ⟨gb360,3,none⟩ = some (.int .i64 a0_3):=(blk_cell BK360.out 3).trans rfl;have hcz8_4 : w5.cell? ⟨gb360,4,none⟩ = some (.int .i64 a0_4):=(blk_cell BK360.out 4).trans rfl;have hcz8_5 : w5.cell? ⟨gb360,5,none⟩ = some (.int .i64 a0_5):=(blk_cell BK360.out 5).trans rfl;have hcz8_6 : w5.cell? ⟨gb360,6,none⟩ = some (.int .i64 a0_6):=(blk_cell BK360.out 6).trans rfl;have hfz8_0:=blk_frozen BK360.out 0;have hfz8_1:=blk_frozen BK360.out 1;have hfz8_2:=blk_frozen BK360.out 2;have hfz8_3:=blk_frozen BK360.out 3;have hfz8_4:=blk_frozen BK360.out 4;have hfz8_5:=blk_frozen BK360.out 5;have hfz8_6:=blk_frozen BK360.out 6;have hnb9:=NB362_361.out;have hnc9:=NB361_362.out;have hcz10_0 : w5.cell? ⟨gb362,0,none⟩ = some (.int .i64 0):=(blk_cell BK362.out 0).trans rfl;have hcz10_1 : w5.cell? ⟨gb362,1,none⟩ = some (.int .i64 0):=(blk_cell BK362.out 1).trans rfl;have hcz10_2 : w5.cell? ⟨gb362,2,none⟩ = some (.int .i64 0):=(blk_cell BK362.out 2).trans rfl;have hcz10_3 : w5.cell? ⟨gb362,3,none⟩ = some (.int .i64 0):=(blk_cell BK362.out 3).trans rfl;have hcz10_4 : w5.cell? ⟨gb362,4,none⟩ = some (.int .i64 0):=(blk_cell BK362.out 4).trans rfl;have hcz10_5 : w5.cell? ⟨gb362,5,none⟩ = some (.int .i64 0):=(blk_cell BK362.out 5).trans rfl;have hcz10_6 : w5.cell? ⟨gb362,6,none⟩ = some (.int .i64 0):=(blk_cell BK362.out 6).trans rfl;have hfz10_0:=blk_frozen BK362.out 0;have hfz10_1:=blk_frozen BK362.out 1;have hfz10_2:=blk_frozen BK362.out 2;have hfz10_3:=blk_frozen BK362.out 3;have hfz10_4:=blk_frozen BK362.out 4;have hfz10_5:=blk_frozen BK362.out 5;have hfz10_6:=blk_frozen BK362.out 6) | ((with_reducible refine gc (f:=163) rfl ?_);refine gl (some 15) Try.func163 #[.agg #[.int .i64 a0_3,.int .i64 a0_4,.int .i64 a0_5,.int .i64 a0_6]] ?_;(with_reducible refine (laws_toItem.calls a0_3 a0_4 a0_5 a0_6 t363 t364 t365 t366 _ A2.out).mono ?_);rintro e w11 ⟨rfl,hb⟩;refine ⟨_,rfl,?_⟩;have n_ : _∧_∧_∧_:=⟨kp #[.int .i64 a0_0,.int .i64 a0_1,.int .i64 a0_2,.int .i64 a0_3,.int .i64 a0_4,.int .i64 a0_5,.int .i64 a0_6] BK360 hb,kp #[.int .i64 0,.int .i64 0,.int .i64 0,.int .i64 0,.int .i64 0,.int .i64 0,.int .i64 0] BK361 hb,kp #[.int .i64 a0_0,.int .i64 a0_1,.int .i64 a0_2,.int .i64 0,.int .i64 0,.int .i64 0,.int .i64 0] BK362 hb,kh HB hb⟩;clear BK360 BK361 BK362 HB;obtain ⟨BK360,BK361,BK362,HB⟩:=n_;(try clear hb);(try clear hb2);(try clear hk);(try clear hi);have hcz12_0 : w11.cell? ⟨gb362,0,none⟩ = some (.int .i64 a0_0):=(blk_cell BK362.out 0).trans rfl;have hcz12_1 : w11.cell? ⟨gb362,1,none⟩ = some (.int .i64 a0_1):=(blk_cell BK362.out 1).trans rfl;have hcz12_2 : w11.cell? ⟨gb362,2,none⟩ = some (.int .i64 a0_2):=(blk_cell BK362.out 2).trans rfl;have hcz12_3 : w11.cell? ⟨gb362,3,none⟩ = some (.int .i64 0):=(blk_cell BK362.out 3).trans rfl;have hcz12_4 : w11.cell? ⟨gb362,4,none⟩ = some (.int .i64 0):=(blk_cell BK362.out 4).trans rfl;have hcz12_5 : w11.cell? ⟨gb362,5,none⟩ = some (.int .i64 0):=(blk_cell BK362.out 5).trans rfl;have hcz12_6 : w11.cell? ⟨gb362,6,none⟩ = some (.int .i64 0):=(blk_cell BK362.out 6).trans rfl;have hfz12_0:=blk_frozen BK362.out 0;have hfz12_1:=blk_frozen BK362.out 1;have hfz12_2:=blk_frozen BK362.out 2;have hfz12_3:=blk_frozen BK362.out 3;have hfz12_4:=blk_frozen BK362.out 4;have hfz12_5:=blk_frozen BK362.out 5;have hfz12_6:=blk_frozen BK362.out 6;have hcz13_0 : w11.cell? ⟨gb361,0,none⟩ = some (.int .i64 0):=(blk_cell BK361.out 0).trans rfl;have hcz13_1 : w11.cell? ⟨gb361,1,none⟩ = some (.int .i64 0):=(blk_cell BK361.out 1).trans rfl;have hcz13_2 : w11.cell? ⟨gb361,2,none⟩ = some (.int .i64 0):=(blk_cell BK361.out 2).trans rfl;have hcz13_3 : w11.cell? ⟨gb361,3,none⟩ = some (.int .i64 0):=(blk_cell BK361.out 3).trans rfl;have hcz13_4 : w11.cell? ⟨gb361,4,none⟩ = some (.int .i64 0):=(blk_cell BK361.out 4).trans rfl;have hcz13_5 : w11.cell? ⟨gb361,5,none⟩ = some (.int .i64 0):=(blk_cell BK361.out 5).trans rfl;have hcz13_6 : w11.cell? ⟨gb361,6,none⟩ = some (.int .i64 0):=(blk_cell BK361.out 6).trans rfl;have hfz13_0:=blk_frozen BK361.out 0;have hfz13_1:=blk_frozen BK361.out 1;have hfz13_2:=blk_frozen BK361.out 2;have hfz13_3:=blk_frozen BK361.out 3;have hfz13_4:=blk_frozen BK361.out 4;have hfz13_5:=blk_frozen BK361.out 5;have hfz13_6:=blk_frozen BK361.out 6))
 refine bodyPost_ret (results_cell_row rfl _ _ gb361 36 #[.int .i64 a0_0,.int .i64 a0_1,.int .i64 a0_2,.int .i64 t363,.int .i64 t364,.int .i64 t365,.int .i64 t366] (0,0) _ rfl (kq BK361) Try.underlying36 rfl (by kernel_rfl)) rfl ?_
 exact ⟨by first | rfl | (simp [errW_none,errW_some] <;> rfl) | (simp [*,errW_none,errW_some] <;> rfl),rbx HB⟩

/-! ### laws_markEntryS: function 49 -/
def laws_markEntryS.l0 : Nat→List (S134)→Int→Int→Option (Int × (List (S134)))
 | 0,_,_,_=>none
 | k + 1,x0,x1,x5=>if x5 < (x0.length : Int) then (if 0 ≤ x5 then ((some (x0.set (x5 : Int).toNat (⟨x1,(rd_T134 x0 x5).f1,(⟨(rd_T134 x0 x5).f2.f0,(rd_T134 x0 x5).f2.f1,(rd_T134 x0 x5).f2.f2,(rd_T134 x0 x5).f2.f3⟩ : S34)⟩ : S134) : List (S134))).bind fun y367=>((some (y367.set (x5 : Int).toNat (⟨(rd_T134 y367 x5).f0,wrap64 (x1 + 1),(⟨(rd_T134 y367 x5).f2.f0,(rd_T134 y367 x5).f2.f1,(rd_T134 y367 x5).f2.f2,(rd_T134 y367 x5).f2.f3⟩ : S34)⟩ : S134) : List (S134))).bind fun y368=>((some (y368.set (x5 : Int).toNat (⟨(rd_T134 y368 x5).f0,(rd_T134 y368 x5).f1,(⟨wrap64 ((wrap64 (x1 + 1)) + 1),(rd_T134 y368 x5).f2.f1,(rd_T134 y368 x5).f2.f2,(rd_T134 y368 x5).f2.f3⟩ : S34)⟩ : S134) : List (S134))).bind fun y369=>((some (y369.set (x5 : Int).toNat (⟨(rd_T134 y369 x5).f0,(rd_T134 y369 x5).f1,(⟨(rd_T134 y369 x5).f2.f0,wrap64 ((wrap64 ((wrap64 (x1 + 1)) + 1)) + 1),(rd_T134 y369 x5).f2.f2,(rd_T134 y369 x5).f2.f3⟩ : S34)⟩ : S134) : List (S134))).bind fun y370=>((some (y370.set (x5 : Int).toNat (⟨(rd_T134 y370 x5).f0,(rd_T134 y370 x5).f1,(⟨(rd_T134 y370 x5).f2.f0,(rd_T134 y370 x5).f2.f1,wrap64 ((wrap64 ((wrap64 ((wrap64 (x1 + 1)) + 1)) + 1)) + 1),(rd_T134 y370 x5).f2.f3⟩ : S34)⟩ : S134) : List (S134))).bind fun y371=>(laws_markEntryS.l0 k (y371.set (x5 : Int).toNat (⟨(rd_T134 y371 x5).f0,(rd_T134 y371 x5).f1,(⟨(rd_T134 y371 x5).f2.f0,(rd_T134 y371 x5).f2.f1,(rd_T134 y371 x5).f2.f2,wrap64 ((wrap64 ((wrap64 ((wrap64 ((wrap64 (x1 + 1)) + 1)) + 1)) + 1)) + 1)⟩ : S34)⟩ : S134)) (wrap64 ((wrap64 ((wrap64 ((wrap64 ((wrap64 ((wrap64 (x1 + 1)) + 1)) + 1)) + 1)) + 1)) + 1)) (wrap64 (x5 + 1)))))))) else (none)) else (some (x1,x0))
def laws_markEntryS.f (k : Nat) (l0 : List (S134)) (a1 : Int) : Option (Int × (List (S134))):=laws_markEntryS.l0 k l0 a1 0
theorem laws_markEntryS.mono_l : ∀ k,(∀ y0 y1 y2,LeO (laws_markEntryS.l0 k y0 y1 y2) (laws_markEntryS.l0 (k + 1) y0 y1 y2))
 | 0=>fun _ _ _ r h=>by simp [laws_markEntryS.l0] at h
 | k + 1=>by
  have ih0:=laws_markEntryS.mono_l k
  ·intro y0 y1 y2
   unfold laws_markEntryS.l0
   repeat' first
   | (with_reducible apply ih0)
   | (with_reducible exact LeO.refl _)
   | (with_reducible exact LeO.none _)
   | (with_reducible refine LeO.ite ?_ ?_)
   | (with_reducible refine LeO.bind ?_ (fun _=>?_))
   | apply ih0
   | exact LeO.none _
   | refine LeO.ite ?_ ?_
   | refine LeO.bind ?_ (fun _=>?_)
theorem laws_markEntryS.mono : ∀ a0 a1 k,LeO (laws_markEntryS.f k a0 a1) (laws_markEntryS.f (k + 1) a0 a1):=by
 intro a0 a1 k
 have ih0:=laws_markEntryS.mono_l k
 unfold laws_markEntryS.f
 repeat' first
   | (with_reducible apply ih0)
   | (with_reducible exact LeO.refl _)
   | (with_reducible exact LeO.none _)
   | (with_reducible refine LeO.ite ?_ ?_)
   | (with_reducible refine LeO.bind ?_ (fun _=>?_))
   | apply ih0
   | exact LeO.none _
   | refine LeO.ite ?_ ?_
   | refine LeO.bind ?_ (fun _=>?_)
set_option maxHeartbeats 8000000 in
theorem laws_markEntryS.calls (k : Nat) (P0_ : Nat→Prop) (u9000_ : Value) (l0 : List (S134)) (a1 : Int) (r1 : Int) (r2 : List (S134)) (w0 w : World) (hB : Below w0.heap.size w0 w) (ho0 : Kd.R k134 134 w w0.heap.size P0_ u9000_ l0) (h : laws_markEntryS.f k l0 a1 = some (r1,r2)) :
  Calls Try.prog 49 #[u9000_,.int .i64 a1] w fun e w'=>e = .returned (.int .i64 r1)∧Kd.R k134 134 w' w0.heap.size (fun k_=>(P0_ k_ ∨ w.heap.size ≤ k_)) u9000_ r2∧Below w0.heap.size w0 w'∧Kept w w' (fun k_=>P0_ k_):=by
 have HO0:=ak (show Kd.R k134 134 w w0.heap.size (fun k_=>(P0_ k_ ∨ w.heap.size ≤ k_)) u9000_ l0 from Kd.R_mono ho0 (fun k_ hk=>(.inl hk)))
 have HK:=ak (Kept.refl w (fun k_=>P0_ k_))
 have HW0:=ak hB.size
 have HB:=ak hB
 clear hB
 have H : (laws_markEntryS.l0 k l0 a1 0) = some (r1,r2):=h
 clear h
 have H':=ak H
 clear H
 go_enter Try.func49,Try.ntmps49
 go_wp2
 go_loopg [1,5] k (fun kq v1 v5 w'=>∃ (x0_1 : List (S134)) (x1_1 : Int) (x5_1 : Int),v1 = .int .i64 x1_1∧v5 = .int .i64 x5_1∧Aside0 (laws_markEntryS.l0 kq x0_1 x1_1 x5_1 = some (r1,r2))∧Aside0 (kq ≤ k)∧Aside0 (Kd.R k134 134 w' w0.heap.size (fun k_=>(P0_ k_ ∨ w.heap.size ≤ k_)) u9000_ x0_1)∧Aside0 (Kept w w' (fun k_=>P0_ k_))∧Aside0 (Below w0.heap.size w0 w'))
 case atStart=>exact ⟨(l0),(a1),(0),(by first | rfl | (simp;done) | (simp [*];done)),(by first | rfl | (simp;done) | (simp [*];done)),H',⟨Nat.le_refl _⟩,⟨rr HO0.out⟩,⟨by repeat (first | (with_reducible first | exact HK.out | apply Kept.alloc | apply Kept.drewN | apply Kept.drew) | exact HK.out)⟩,⟨rbx HB⟩⟩
 case round =>
  clear H'
  try clear p2
  obtain ⟨x0_1,x1_1,x5_1,rfl,rfl,HA,HK1,HO_0,HK,HB⟩:=hrel
  cases gk with
  | zero=>exact absurd HA.out (by simp [laws_markEntryS.l0])
  | succ k1 =>
   have H:=HA.out
   clear HA
   simp only [laws_markEntryS.l0] at H
   by_cases c3 : x5_1 < (x0_1.length : Int)
   rotate_left
   ·rw [if_neg c3] at H
    have c3b0 : decide (x5_1 < (x0_1.length : Int)) = false:=decide_eq_false c3
    clear c3
    simp only [Option.some.injEq,Prod.mk.injEq] at H
    obtain ⟨rfl,rfl⟩:=H
    obtain ⟨Ao24,co24,eo24⟩:=Kd.R_slice HO_0.out
    subst eo24
    go_wp2
    go_ret
    exact ⟨by first | rfl | (simp [errW_none,errW_some] <;> rfl) | (simp [*,errW_none,errW_some] <;> rfl),rr HO_0.out,rbx HB,by repeat (first | (with_reducible first | exact HK.out | apply Kept.alloc | apply Kept.drewN | apply Kept.drew) | exact HK.out)⟩
   rw [if_pos c3] at H
   have c3b0 : decide (x5_1 < (x0_1.length : Int)) = true:=decide_eq_true c3
   clear c3
   by_cases c4 : 0 ≤ x5_1
   rotate_left
   ·rw [if_neg c4] at H
    exact absurd H (by simp)
   rw [if_pos c4] at H
   have c4b0 : decide (0 ≤ x5_1) = true:=decide_eq_true c4
   clear c4
   obtain ⟨y367,hy367⟩ : ∃ y_ : List (S134),y_ = (x0_1.set (x5_1 : Int).toNat (⟨x1_1,(rd_T134 x0_1 x5_1).f1,(⟨(rd_T134 x0_1 x5_1).f2.f0,(rd_T134 x0_1 x5_1).f2.f1,(rd_T134 x0_1 x5_1).f2.f2,(rd_T134 x0_1 x5_1).f2.f3⟩ : S34)⟩ : S134)):=⟨_,rfl⟩
   replace H : ((some (y367.set (x5_1 : Int).toNat (⟨(rd_T134 y367 x5_1).f0,wrap64 (x1_1 + 1),(⟨(rd_T134 y367 x5_1).f2.f0,(rd_T134 y367 x5_1).f2.f1,(rd_T134 y367 x5_1).f2.f2,(rd_T134 y367 x5_1).f2.f3⟩ : S34)⟩ : S134) : List (S134))).bind fun y368=>((some (y368.set (x5_1 : Int).toNat (⟨(rd_T134 y368 x5_1).f0,(rd_T134 y368 x5_1).f1,(⟨wrap64 ((wrap64 (x1_1 + 1)) + 1),(rd_T134 y368 x5_1).f2.f1,(rd_T134 y368 x5_1).f2.f2,(rd_T134 y368 x5_1).f2.f3⟩ : S34)⟩ : S134) : List (S134))).bind fun y369=>((some (y369.set (x5_1 : Int).toNat (⟨(rd_T134 y369 x5_1).f0,(rd_T134 y369 x5_1).f1,(⟨(rd_T134 y369 x5_1).f2.f0,wrap64 ((wrap64 ((wrap64 (x1_1 + 1)) + 1)) + 1),(rd_T134 y369 x5_1).f2.f2,(rd_T134 y369 x5_1).f2.f3⟩ : S34)⟩ : S134) : List (S134))).bind fun y370=>((some (y370.set (x5_1 : Int).toNat (⟨(rd_T134 y370 x5_1).f0,(rd_T134 y370 x5_1).f1,(⟨(rd_T134 y370 x5_1).f2.f0,(rd_T134 y370 x5_1).f2.f1,wrap64 ((wrap64 ((wrap64 ((wrap64 (x1_1 + 1)) + 1)) + 1)) + 1),(rd_T134 y370 x5_1).f2.f3⟩ : S34)⟩ : S134) : List (S134))).bind fun y371=>(laws_markEntryS.l0 k1 (y371.set (x5_1 : Int).toNat (⟨(rd_T134 y371 x5_1).f0,(rd_T134 y371 x5_1).f1,(⟨(rd_T134 y371 x5_1).f2.f0,(rd_T134 y371 x5_1).f2.f1,(rd_T134 y371 x5_1).f2.f2,wrap64 ((wrap64 ((wrap64 ((wrap64 ((wrap64 (x1_1 + 1)) + 1)) + 1)) + 1)) + 1)⟩ : S34)⟩ : S134)) (wrap64 ((wrap64 ((wrap64 ((wrap64 ((wrap64 ((wrap64 (x1_1 + 1)) + 1)) + 1)) + 1)) + 1)) + 1)) (wrap64 (x5_1 + 1))))))) = some (r1,r2):=by first | (rw [hy367];with_reducible exact H) | (have H2_:=(Option.bind_some _ _).symm.trans H;rw [hy367];with_reducible exact H2_) | (have H2_:=(Option.bind_some _ _).symm.trans H;with_reducible exact H2_) | with_reducible exact H | (rw [hy367];exact H) | exact H
   have Ny367:=ak hy367
   clear hy367
   obtain ⟨y368,hy368⟩ : ∃ y_ : List (S134),y_ = (y367.set (x5_1 : Int).toNat (⟨(rd_T134 y367 x5_1).f0,wrap64 (x1_1 + 1),(⟨(rd_T134 y367 x5_1).f2.f0,(rd_T134 y367 x5_1).f2.f1,(rd_T134 y367 x5_1).f2.f2,(rd_T134 y367 x5_1).f2.f3⟩ : S34)⟩ : S134)):=⟨_,rfl⟩
   replace H : ((some (y368.set (x5_1 : Int).toNat (⟨(rd_T134 y368 x5_1).f0,(rd_T134 y368 x5_1).f1,(⟨wrap64 ((wrap64 (x1_1 + 1)) + 1),(rd_T134 y368 x5_1).f2.f1,(rd_T134 y368 x5_1).f2.f2,(rd_T134 y368 x5_1).f2.f3⟩ : S34)⟩ : S134) : List (S134))).bind fun y369=>((some (y369.set (x5_1 : Int).toNat (⟨(rd_T134 y369 x5_1).f0,(rd_T134 y369 x5_1).f1,(⟨(rd_T134 y369 x5_1).f2.f0,wrap64 ((wrap64 ((wrap64 (x1_1 + 1)) + 1)) + 1),(rd_T134 y369 x5_1).f2.f2,(rd_T134 y369 x5_1).f2.f3⟩ : S34)⟩ : S134) : List (S134))).bind fun y370=>((some (y370.set (x5_1 : Int).toNat (⟨(rd_T134 y370 x5_1).f0,(rd_T134 y370 x5_1).f1,(⟨(rd_T134 y370 x5_1).f2.f0,(rd_T134 y370 x5_1).f2.f1,wrap64 ((wrap64 ((wrap64 ((wrap64 (x1_1 + 1)) + 1)) + 1)) + 1),(rd_T134 y370 x5_1).f2.f3⟩ : S34)⟩ : S134) : List (S134))).bind fun y371=>(laws_markEntryS.l0 k1 (y371.set (x5_1 : Int).toNat (⟨(rd_T134 y371 x5_1).f0,(rd_T134 y371 x5_1).f1,(⟨(rd_T134 y371 x5_1).f2.f0,(rd_T134 y371 x5_1).f2.f1,(rd_T134 y371 x5_1).f2.f2,wrap64 ((wrap64 ((wrap64 ((wrap64 ((wrap64 (x1_1 + 1)) + 1)) + 1)) + 1)) + 1)⟩ : S34)⟩ : S134)) (wrap64 ((wrap64 ((wrap64 ((wrap64 ((wrap64 ((wrap64 (x1_1 + 1)) + 1)) + 1)) + 1)) + 1)) + 1)) (wrap64 (x5_1 + 1)))))) = some (r1,r2):=by first | (rw [hy368];with_reducible exact H) | (have H2_:=(Option.bind_some _ _).symm.trans H;rw [hy368];with_reducible exact H2_) | (have H2_:=(Option.bind_some _ _).symm.trans H;with_reducible exact H2_) | with_reducible exact H | (rw [hy368];exact H) | exact H
   have Ny368:=ak hy368
   clear hy368
   obtain ⟨y369,hy369⟩ : ∃ y_ : List (S134),y_ = (y368.set (x5_1 : Int).toNat (⟨(rd_T134 y368 x5_1).f0,(rd_T134 y368 x5_1).f1,(⟨wrap64 ((wrap64 (x1_1 + 1)) + 1),(rd_T134 y368 x5_1).f2.f1,(rd_T134 y368 x5_1).f2.f2,(rd_T134 y368 x5_1).f2.f3⟩ : S34)⟩ : S134)):=⟨_,rfl⟩
   replace H : ((some (y369.set (x5_1 : Int).toNat (⟨(rd_T134 y369 x5_1).f0,(rd_T134 y369 x5_1).f1,(⟨(rd_T134 y369 x5_1).f2.f0,wrap64 ((wrap64 ((wrap64 (x1_1 + 1)) + 1)) + 1),(rd_T134 y369 x5_1).f2.f2,(rd_T134 y369 x5_1).f2.f3⟩ : S34)⟩ : S134) : List (S134))).bind fun y370=>((some (y370.set (x5_1 : Int).toNat (⟨(rd_T134 y370 x5_1).f0,(rd_T134 y370 x5_1).f1,(⟨(rd_T134 y370 x5_1).f2.f0,(rd_T134 y370 x5_1).f2.f1,wrap64 ((wrap64 ((wrap64 ((wrap64 (x1_1 + 1)) + 1)) + 1)) + 1),(rd_T134 y370 x5_1).f2.f3⟩ : S34)⟩ : S134) : List (S134))).bind fun y371=>(laws_markEntryS.l0 k1 (y371.set (x5_1 : Int).toNat (⟨(rd_T134 y371 x5_1).f0,(rd_T134 y371 x5_1).f1,(⟨(rd_T134 y371 x5_1).f2.f0,(rd_T134 y371 x5_1).f2.f1,(rd_T134 y371 x5_1).f2.f2,wrap64 ((wrap64 ((wrap64 ((wrap64 ((wrap64 (x1_1 + 1)) + 1)) + 1)) + 1)) + 1)⟩ : S34)⟩ : S134)) (wrap64 ((wrap64 ((wrap64 ((wrap64 ((wrap64 ((wrap64 (x1_1 + 1)) + 1)) + 1)) + 1)) + 1)) + 1)) (wrap64 (x5_1 + 1))))) = some (r1,r2):=by first | (rw [hy369];with_reducible exact H) | (have H2_:=(Option.bind_some _ _).symm.trans H;rw [hy369];with_reducible exact H2_) | (have H2_:=(Option.bind_some _ _).symm.trans H;with_reducible exact H2_) | with_reducible exact H | (rw [hy369];exact H) | exact H
   have Ny369:=ak hy369
   clear hy369
   obtain ⟨y370,hy370⟩ : ∃ y_ : List (S134),y_ = (y369.set (x5_1 : Int).toNat (⟨(rd_T134 y369 x5_1).f0,(rd_T134 y369 x5_1).f1,(⟨(rd_T134 y369 x5_1).f2.f0,wrap64 ((wrap64 ((wrap64 (x1_1 + 1)) + 1)) + 1),(rd_T134 y369 x5_1).f2.f2,(rd_T134 y369 x5_1).f2.f3⟩ : S34)⟩ : S134)):=⟨_,rfl⟩
   replace H : ((some (y370.set (x5_1 : Int).toNat (⟨(rd_T134 y370 x5_1).f0,(rd_T134 y370 x5_1).f1,(⟨(rd_T134 y370 x5_1).f2.f0,(rd_T134 y370 x5_1).f2.f1,wrap64 ((wrap64 ((wrap64 ((wrap64 (x1_1 + 1)) + 1)) + 1)) + 1),(rd_T134 y370 x5_1).f2.f3⟩ : S34)⟩ : S134) : List (S134))).bind fun y371=>(laws_markEntryS.l0 k1 (y371.set (x5_1 : Int).toNat (⟨(rd_T134 y371 x5_1).f0,(rd_T134 y371 x5_1).f1,(⟨(rd_T134 y371 x5_1).f2.f0,(rd_T134 y371 x5_1).f2.f1,(rd_T134 y371 x5_1).f2.f2,wrap64 ((wrap64 ((wrap64 ((wrap64 ((wrap64 (x1_1 + 1)) + 1)) + 1)) + 1)) + 1)⟩ : S34)⟩ : S134)) (wrap64 ((wrap64 ((wrap64 ((wrap64 ((wrap64 ((wrap64 (x1_1 + 1)) + 1)) + 1)) + 1)) + 1)) + 1)) (wrap64 (x5_1 + 1)))) = some (r1,r2):=by first | (rw [hy370];with_reducible exact H) | (have H2_:=(Option.bind_some _ _).symm.trans H;rw [hy370];with_reducible exact H2_) | (have H2_:=(Option.bind_some _ _).symm.trans H;with_reducible exact H2_) | with_reducible exact H | (rw [hy370];exact H) | exact H
   have Ny370:=ak hy370
   clear hy370
   obtain ⟨y371,hy371⟩ : ∃ y_ : List (S134),y_ = (y370.set (x5_1 : Int).toNat (⟨(rd_T134 y370 x5_1).f0,(rd_T134 y370 x5_1).f1,(⟨(rd_T134 y370 x5_1).f2.f0,(rd_T134 y370 x5_1).f2.f1,wrap64 ((wrap64 ((wrap64 ((wrap64 (x1_1 + 1)) + 1)) + 1)) + 1),(rd_T134 y370 x5_1).f2.f3⟩ : S34)⟩ : S134)):=⟨_,rfl⟩
   replace H : (laws_markEntryS.l0 k1 (y371.set (x5_1 : Int).toNat (⟨(rd_T134 y371 x5_1).f0,(rd_T134 y371 x5_1).f1,(⟨(rd_T134 y371 x5_1).f2.f0,(rd_T134 y371 x5_1).f2.f1,(rd_T134 y371 x5_1).f2.f2,wrap64 ((wrap64 ((wrap64 ((wrap64 ((wrap64 (x1_1 + 1)) + 1)) + 1)) + 1)) + 1)⟩ : S34)⟩ : S134)) (wrap64 ((wrap64 ((wrap64 ((wrap64 ((wrap64 ((wrap64 (x1_1 + 1)) + 1)) + 1)) + 1)) + 1)) + 1)) (wrap64 (x5_1 + 1))) = some (r1,r2):=by first | (rw [hy371];with_reducible exact H) | (have H2_:=(Option.bind_some _ _).symm.trans H;rw [hy371];with_reducible exact H2_) | (have H2_:=(Option.bind_some _ _).symm.trans H;with_reducible exact H2_) | with_reducible exact H | (rw [hy371];exact H) | exact H
   have Ny371:=ak hy371
   clear hy371
   obtain ⟨y372,hy372⟩ : ∃ y_ : List (S134),y_ = (y371.set (x5_1 : Int).toNat (⟨(rd_T134 y371 x5_1).f0,(rd_T134 y371 x5_1).f1,(⟨(rd_T134 y371 x5_1).f2.f0,(rd_T134 y371 x5_1).f2.f1,(rd_T134 y371 x5_1).f2.f2,wrap64 ((wrap64 ((wrap64 ((wrap64 ((wrap64 (x1_1 + 1)) + 1)) + 1)) + 1)) + 1)⟩ : S34)⟩ : S134)):=⟨_,rfl⟩
   replace H : (laws_markEntryS.l0 k1 y372 (wrap64 ((wrap64 ((wrap64 ((wrap64 ((wrap64 ((wrap64 (x1_1 + 1)) + 1)) + 1)) + 1)) + 1)) + 1)) (wrap64 (x5_1 + 1))) = some (r1,r2):=by first | (rw [hy372];with_reducible exact H) | (have H2_:=(Option.bind_some _ _).symm.trans H;rw [hy372];with_reducible exact H2_) | (have H2_:=(Option.bind_some _ _).symm.trans H;with_reducible exact H2_) | with_reducible exact H | (rw [hy372];exact H) | exact H
   have Ny372:=ak hy372
   clear hy372
   have H':=ak H
   clear H
   obtain ⟨Ao11,co11,eo11⟩:=Kd.R_slice HO_0.out
   subst eo11
   have p5 : 0 ≤ (x5_1 : Int):=of_decide_eq_true (by first | (with_reducible assumption) | assumption)
   have q5 : (x5_1 : Int) < ((x0_1.length : Int) : Int):=of_decide_eq_true (by first | (with_reducible assumption) | assumption)
   obtain ⟨go5,co5,eo5,gb5,gl5,cl5,HG5⟩:=Kd.R_form HO_0.out (by omega)
   (first | cases eo5 | (injection eo5 with ea_ en_ ec_;(first | subst ea_ | (injection ea_ with ea_;subst ea_));subst ec_;clear en_))
   have GB5:=ak gb5
   have GG5:=ak HG5
   clear gb5 gl5 HG5
   have HMgo5:=ak (show (P0_ go5 ∨ w.heap.size ≤ go5) from (HO_0.out.1 _ rfl))
   obtain ⟨ce5,hcl5,hM5,hcc5,hfr5⟩:=Kd.R_elem HO_0.out z134 (x5_1 : Int) p5 q5
   obtain rfl:=k134_openM hM5
   have hx5_0 : wr.cell? ⟨go5,(x5_1 : Int).toNat * 6,none⟩ = some (.int .i64 ((rd_T134 x0_1 x5_1).f0)):=hcc5 0 _ rfl
   have hx5_1 : wr.cell? ⟨go5,(x5_1 : Int).toNat * 6 + 1,none⟩ = some (.int .i64 ((rd_T134 x0_1 x5_1).f1)):=hcc5 1 _ rfl
   have hx5_2 : wr.cell? ⟨go5,(x5_1 : Int).toNat * 6 + 2,none⟩ = some (.int .i64 ((rd_T134 x0_1 x5_1).f2.f0)):=hcc5 2 _ rfl
   have hx5_3 : wr.cell? ⟨go5,(x5_1 : Int).toNat * 6 + 3,none⟩ = some (.int .i64 ((rd_T134 x0_1 x5_1).f2.f1)):=hcc5 3 _ rfl
   have hx5_4 : wr.cell? ⟨go5,(x5_1 : Int).toNat * 6 + 4,none⟩ = some (.int .i64 ((rd_T134 x0_1 x5_1).f2.f2)):=hcc5 4 _ rfl
   have hx5_5 : wr.cell? ⟨go5,(x5_1 : Int).toNat * 6 + 5,none⟩ = some (.int .i64 ((rd_T134 x0_1 x5_1).f2.f3)):=hcc5 5 _ rfl
   have hf5_0 : wr.frozen? ⟨go5,(x5_1 : Int).toNat * 6,none⟩ = false:=hfr5 0
   have hf5_1 : wr.frozen? ⟨go5,(x5_1 : Int).toNat * 6 + 1,none⟩ = false:=hfr5 1
   have hf5_2 : wr.frozen? ⟨go5,(x5_1 : Int).toNat * 6 + 2,none⟩ = false:=hfr5 2
   have hf5_3 : wr.frozen? ⟨go5,(x5_1 : Int).toNat * 6 + 3,none⟩ = false:=hfr5 3
   have hf5_4 : wr.frozen? ⟨go5,(x5_1 : Int).toNat * 6 + 4,none⟩ = false:=hfr5 4
   have hf5_5 : wr.frozen? ⟨go5,(x5_1 : Int).toNat * 6 + 5,none⟩ = false:=hfr5 5
   clear hcl5 hcc5 hfr5 hM5
   replace p5:=eq_true p5
   replace q5:=eq_true q5
   have HX12:=ak (show Kd.R k134 134 wr w0.heap.size (fun k_=>(P0_ k_ ∨ w.heap.size ≤ k_)) (.slice (some ⟨go5,0,none⟩) x0_1.length co11) x0_1 from (rr HO_0.out))
   obtain ⟨ce12,hcl12,hM12,hcc12,hfr12⟩:=Kd.R_elem HX12.out z134 (x5_1 : Int) (of_decide_eq_true (by first | (with_reducible assumption) | assumption)) (by have h_ : (x5_1 : Int) < ((x0_1.length : Int) : Int):=of_decide_eq_true (by first | (with_reducible assumption) | assumption);first | exact h_ | (have e_:=(Kd.R_reads' HO_0.out).1;omega) | simpa using h_)
   obtain rfl:=k134_openM hM12
   have HP12:=Kd.R_seg HX12.out (x5_1 : Int) (of_decide_eq_true (by first | (with_reducible assumption) | assumption)) (by have h_ : (x5_1 : Int) < ((x0_1.length : Int) : Int):=of_decide_eq_true (by first | (with_reducible assumption) | assumption);first | exact h_ | (have e_:=(Kd.R_reads' HO_0.out).1;omega) | simpa using h_) (seg:=[.int .i64 x1_1]) (j:=0) hcl12 hcc12 (show 1 ≤ 6 from by decide) (x':=(⟨x1_1,(rd_T134 x0_1 x5_1).f1,(⟨(rd_T134 x0_1 x5_1).f2.f0,(rd_T134 x0_1 x5_1).f2.f1,(rd_T134 x0_1 x5_1).f2.f2,(rd_T134 x0_1 x5_1).f2.f3⟩ : S34)⟩ : S134)) (k134_mkM _ _ _ (⟨x1_1,(rd_T134 x0_1 x5_1).f1,(⟨(rd_T134 x0_1 x5_1).f2.f0,(rd_T134 x0_1 x5_1).f2.f1,(rd_T134 x0_1 x5_1).f2.f2,(rd_T134 x0_1 x5_1).f2.f3⟩ : S34)⟩ : S134) ) (fun _ hk=>hk)
   have hx12_0:=hcc12 0 _ rfl
   (try simp only [show (k134).sz = 6 from rfl,Nat.mul_one,Nat.add_zero] at hx12_0)
   have hf12_0:=hfr12 0
   (try simp only [show (k134).sz = 6 from rfl,Nat.mul_one,Nat.add_zero] at hf12_0)
   clear hcl12 hcc12 hfr12 hM12
   go_wp2_with (first | ((with_reducible refine gate_store (t:=3) (p:=16) rfl ?_);refine store_event (t:=3) (p:=16) (v:=?vo_w13) (w1:=(wr.setCell ⟨go5,(x5_1 : Int).toNat * 6,none⟩ (.int .i64 x1_1))) ?hg ?ho ?hn ?hr ?_;(case ho=>rfl);(case hg=>rfl);(case hn=>rfl);(case hr=>first | (go_simp;done) | (go_simp;rfl));intro w13 hw;have hg : wr.grownBy w13 (some go5):=(by rw [hw];exact HP12.2);have hp_ : Kd.R k134 134 w13 w0.heap.size (fun k_=>(P0_ k_ ∨ w.heap.size ≤ k_)) (.slice (some ⟨go5,0,none⟩) x0_1.length co11) y367:=(by rw [hw,Ny367.out];exact HP12.1);clear HP12;have n0_:=ak (hp_);have n1_:=ak ((by rw [hw];exact below_set (HB.out) GB5.out : Below w0.heap.size w0 w13));have n2_:=ak (Kept.of_grown (S:=(fun k_=>P0_ k_)) hg (by repeat (first | (with_reducible first | exact HK.out | apply Kept.alloc | apply Kept.drewN | apply Kept.drew) | exact HK.out)) (fun k_ e_=>(HO_0.out.1 k_ e_)));clear HO_0 HB HK;have HO_0:=n0_;have HB:=n1_;have HK:=n2_;clear n0_ n1_ n2_ hg hw hp_;have p6 : 0 ≤ (x5_1 : Int):=of_decide_eq_true (by first | (with_reducible assumption) | assumption);have q6 : (x5_1 : Int) < ((x0_1.length : Int) : Int):=of_decide_eq_true (by first | (with_reducible assumption) | assumption);obtain ⟨ce6,hcl6,hM6,hcc6,hfr6⟩:=Kd.R_elem HO_0.out z134 (x5_1 : Int) p6 q6;obtain rfl:=k134_openM hM6;have hx6_0 : w13.cell? ⟨go5,(x5_1 : Int).toNat * 6,none⟩ = some (.int .i64 ((rd_T134 y367 x5_1).f0)):=hcc6 0 _ rfl;have hx6_1 : w13.cell? ⟨go5,(x5_1 : Int).toNat * 6 + 1,none⟩ = some (.int .i64 ((rd_T134 y367 x5_1).f1)):=hcc6 1 _ rfl;have hx6_2 : w13.cell? ⟨go5,(x5_1 : Int).toNat * 6 + 2,none⟩ = some (.int .i64 ((rd_T134 y367 x5_1).f2.f0)):=hcc6 2 _ rfl;have hx6_3 : w13.cell? ⟨go5,(x5_1 : Int).toNat * 6 + 3,none⟩ = some (.int .i64 ((rd_T134 y367 x5_1).f2.f1)):=hcc6 3 _ rfl;have hx6_4 : w13.cell? ⟨go5,(x5_1 : Int).toNat * 6 + 4,none⟩ = some (.int .i64 ((rd_T134 y367 x5_1).f2.f2)):=hcc6 4 _ rfl;have hx6_5 : w13.cell? ⟨go5,(x5_1 : Int).toNat * 6 + 5,none⟩ = some (.int .i64 ((rd_T134 y367 x5_1).f2.f3)):=hcc6 5 _ rfl;have hf6_0 : w13.frozen? ⟨go5,(x5_1 : Int).toNat * 6,none⟩ = false:=hfr6 0;have hf6_1 : w13.frozen? ⟨go5,(x5_1 : Int).toNat * 6 + 1,none⟩ = false:=hfr6 1;have hf6_2 : w13.frozen? ⟨go5,(x5_1 : Int).toNat * 6 + 2,none⟩ = false:=hfr6 2;have hf6_3 : w13.frozen? ⟨go5,(x5_1 : Int).toNat * 6 + 3,none⟩ = false:=hfr6 3;have hf6_4 : w13.frozen? ⟨go5,(x5_1 : Int).toNat * 6 + 4,none⟩ = false:=hfr6 4;have hf6_5 : w13.frozen? ⟨go5,(x5_1 : Int).toNat * 6 + 5,none⟩ = false:=hfr6 5;clear hcl6 hcc6 hfr6 hM6;replace p6:=eq_true p6;replace q6:=eq_true q6;have HX14:=ak (show Kd.R k134 134 w13 w0.heap.size (fun k_=>(P0_ k_ ∨ w.heap.size ≤ k_)) (.slice (some ⟨go5,0,none⟩) x0_1.length co11) y367 from (rr HO_0.out));obtain ⟨ce14,hcl14,hM14,hcc14,hfr14⟩:=Kd.R_elem HX14.out z134 (x5_1 : Int) (of_decide_eq_true (by first | (with_reducible assumption) | assumption)) (by have h_ : (x5_1 : Int) < ((x0_1.length : Int) : Int):=of_decide_eq_true (by first | (with_reducible assumption) | assumption);first | exact h_ | (have e_:=(Kd.R_reads' HO_0.out).1;omega) | simpa using h_);obtain rfl:=k134_openM hM14;have HP14:=Kd.R_seg HX14.out (x5_1 : Int) (of_decide_eq_true (by first | (with_reducible assumption) | assumption)) (by have h_ : (x5_1 : Int) < ((x0_1.length : Int) : Int):=of_decide_eq_true (by first | (with_reducible assumption) | assumption);first | exact h_ | (have e_:=(Kd.R_reads' HO_0.out).1;omega) | simpa using h_) (seg:=[.int .i64 (wrap64 (x1_1 + 1))]) (j:=1) hcl14 hcc14 (show 2 ≤ 6 from by decide) (x':=(⟨(rd_T134 y367 x5_1).f0,wrap64 (x1_1 + 1),(⟨(rd_T134 y367 x5_1).f2.f0,(rd_T134 y367 x5_1).f2.f1,(rd_T134 y367 x5_1).f2.f2,(rd_T134 y367 x5_1).f2.f3⟩ : S34)⟩ : S134)) (k134_mkM _ _ _ (⟨(rd_T134 y367 x5_1).f0,wrap64 (x1_1 + 1),(⟨(rd_T134 y367 x5_1).f2.f0,(rd_T134 y367 x5_1).f2.f1,(rd_T134 y367 x5_1).f2.f2,(rd_T134 y367 x5_1).f2.f3⟩ : S34)⟩ : S134) ) (fun _ hk=>hk);have hx14_1:=hcc14 1 _ rfl;(try simp only [show (k134).sz = 6 from rfl,Nat.mul_one,Nat.add_zero] at hx14_1);have hf14_1:=hfr14 1;(try simp only [show (k134).sz = 6 from rfl,Nat.mul_one,Nat.add_zero] at hf14_1);clear hcl14 hcc14 hfr14 hM14) | ((with_reducible refine gate_store (t:=3) (p:=23) rfl ?_);refine store_event (t:=3) (p:=23) (v:=?vo_w15) (w1:=(w13.setCell ⟨go5,(x5_1 : Int).toNat * 6 + 1,none⟩ (.int .i64 (wrap64 (x1_1 + 1))))) ?hg ?ho ?hn ?hr ?_;(case ho=>rfl);(case hg=>rfl);(case hn=>rfl);(case hr=>first | (go_simp;done) | (go_simp;rfl));intro w15 hw;have hg : w13.grownBy w15 (some go5):=(by rw [hw];exact HP14.2);have hp_ : Kd.R k134 134 w15 w0.heap.size (fun k_=>(P0_ k_ ∨ w.heap.size ≤ k_)) (.slice (some ⟨go5,0,none⟩) x0_1.length co11) y368:=(by rw [hw,Ny368.out];exact HP14.1);clear HP14;have n0_:=ak (hp_);have n1_:=ak ((by rw [hw];exact below_set (HB.out) GB5.out : Below w0.heap.size w0 w15));have n2_:=ak (Kept.of_grown (S:=(fun k_=>P0_ k_)) hg (by repeat (first | (with_reducible first | exact HK.out | apply Kept.alloc | apply Kept.drewN | apply Kept.drew) | exact HK.out)) (fun k_ e_=>(HO_0.out.1 k_ e_)));clear HO_0 HB HK;have HO_0:=n0_;have HB:=n1_;have HK:=n2_;clear n0_ n1_ n2_ hg hw hp_;have p7 : 0 ≤ (x5_1 : Int):=of_decide_eq_true (by first | (with_reducible assumption) | assumption);have q7 : (x5_1 : Int) < ((x0_1.length : Int) : Int):=of_decide_eq_true (by first | (with_reducible assumption) | assumption);obtain ⟨ce7,hcl7,hM7,hcc7,hfr7⟩:=Kd.R_elem HO_0.out z134 (x5_1 : Int) p7 q7;obtain rfl:=k134_openM hM7;have hx7_0 : w15.cell? ⟨go5,(x5_1 : Int).toNat * 6,none⟩ = some (.int .i64 ((rd_T134 y368 x5_1).f0)):=hcc7 0 _ rfl;have hx7_1 : w15.cell? ⟨go5,(x5_1 : Int).toNat * 6 + 1,none⟩ = some (.int .i64 ((rd_T134 y368 x5_1).f1)):=hcc7 1 _ rfl;have hx7_2 : w15.cell? ⟨go5,(x5_1 : Int).toNat * 6 + 2,none⟩ = some (.int .i64 ((rd_T134 y368 x5_1).f2.f0)):=hcc7 2 _ rfl;have hx7_3 : w15.cell? ⟨go5,(x5_1 : Int).toNat * 6 + 3,none⟩ = some (.int .i64 ((rd_T134 y368 x5_1).f2.f1)):=hcc7 3 _ rfl;have hx7_4 : w15.cell? ⟨go5,(x5_1 : Int).toNat * 6 + 4,none⟩ = some (.int .i64 ((rd_T134 y368 x5_1).f2.f2)):=hcc7 4 _ rfl;have hx7_5 : w15.cell? ⟨go5,(x5_1 : Int).toNat * 6 + 5,none⟩ = some (.int .i64 ((rd_T134 y368 x5_1).f2.f3)):=hcc7 5 _ rfl;have hf7_0 : w15.frozen? ⟨go5,(x5_1 : Int).toNat * 6,none⟩ = false:=hfr7 0;have hf7_1 : w15.frozen? ⟨go5,(x5_1 : Int).toNat * 6 + 1,none⟩ = false:=hfr7 1;have hf7_2 : w15.frozen? ⟨go5,(x5_1 : Int).toNat * 6 + 2,none⟩ = false:=hfr7 2;have hf7_3 : w15.frozen? ⟨go5,(x5_1 : Int).toNat * 6 + 3,none⟩ = false:=hfr7 3;have hf7_4 : w15.frozen? ⟨go5,(x5_1 : Int).toNat * 6 + 4,none⟩ = false:=hfr7 4;have hf7_5 : w15.frozen? ⟨go5,(x5_1 : Int).toNat * 6 + 5,none⟩ = false:=hfr7 5;clear hcl7 hcc7 hfr7 hM7;replace p7:=eq_true p7;replace q7:=eq_true q7;have HX16:=ak (show Kd.R k134 134 w15 w0.heap.size (fun k_=>(P0_ k_ ∨ w.heap.size ≤ k_)) (.slice (some ⟨go5,0,none⟩) x0_1.length co11) y368 from (rr HO_0.out));obtain ⟨ce16,hcl16,hM16,hcc16,hfr16⟩:=Kd.R_elem HX16.out z134 (x5_1 : Int) (of_decide_eq_true (by first | (with_reducible assumption) | assumption)) (by have h_ : (x5_1 : Int) < ((x0_1.length : Int) : Int):=of_decide_eq_true (by first | (with_reducible assumption) | assumption);first | exact h_ | (have e_:=(Kd.R_reads' HO_0.out).1;omega) | simpa using h_);obtain rfl:=k134_openM hM16;have HP16:=Kd.R_seg HX16.out (x5_1 : Int) (of_decide_eq_true (by first | (with_reducible assumption) | assumption)) (by have h_ : (x5_1 : Int) < ((x0_1.length : Int) : Int):=of_decide_eq_true (by first | (with_reducible assumption) | assumption);first | exact h_ | (have e_:=(Kd.R_reads' HO_0.out).1;omega) | simpa using h_) (seg:=[.int .i64 (wrap64 ((wrap64 (x1_1 + 1)) + 1))]) (j:=2) hcl16 hcc16 (show 3 ≤ 6 from by decide) (x':=(⟨(rd_T134 y368 x5_1).f0,(rd_T134 y368 x5_1).f1,(⟨wrap64 ((wrap64 (x1_1 + 1)) + 1),(rd_T134 y368 x5_1).f2.f1,(rd_T134 y368 x5_1).f2.f2,(rd_T134 y368 x5_1).f2.f3⟩ : S34)⟩ : S134)) (k134_mkM _ _ _ (⟨(rd_T134 y368 x5_1).f0,(rd_T134 y368 x5_1).f1,(⟨wrap64 ((wrap64 (x1_1 + 1)) + 1),(rd_T134 y368 x5_1).f2.f1,(rd_T134 y368 x5_1).f2.f2,(rd_T134 y368 x5_1).f2.f3⟩ : S34)⟩ : S134) ) (fun _ hk=>hk);have hx16_2:=hcc16 2 _ rfl;(try simp only [show (k134).sz = 6 from rfl,Nat.mul_one,Nat.add_zero] at hx16_2);have hf16_2:=hfr16 2;(try simp only [show (k134).sz = 6 from rfl,Nat.mul_one,Nat.add_zero] at hf16_2);clear hcl16 hcc16 hfr16 hM16) | ((with_reducible refine gate_store (t:=3) (p:=31) rfl ?_);refine store_event (t:=3) (p:=31) (v:=?vo_w17) (w1:=(w15.setCell ⟨go5,(x5_1 : Int).toNat * 6 + 2,none⟩ (.int .i64 (wrap64 ((wrap64 (x1_1 + 1)) + 1))))) ?hg ?ho ?hn ?hr ?_;(case ho=>rfl);(case hg=>rfl);(case hn=>rfl);(case hr=>first | (go_simp;done) | (go_simp;rfl));intro w17 hw;have hg : w15.grownBy w17 (some go5):=(by rw [hw];exact HP16.2);have hp_ : Kd.R k134 134 w17 w0.heap.size (fun k_=>(P0_ k_ ∨ w.heap.size ≤ k_)) (.slice (some ⟨go5,0,none⟩) x0_1.length co11) y369:=(by rw [hw,Ny369.out];exact HP16.1);clear HP16;have n0_:=ak (hp_);have n1_:=ak ((by rw [hw];exact below_set (HB.out) GB5.out : Below w0.heap.size w0 w17));have n2_:=ak (Kept.of_grown (S:=(fun k_=>P0_ k_)) hg (by repeat (first | (with_reducible first | exact HK.out | apply Kept.alloc | apply Kept.drewN | apply Kept.drew) | exact HK.out)) (fun k_ e_=>(HO_0.out.1 k_ e_)));clear HO_0 HB HK;have HO_0:=n0_;have HB:=n1_;have HK:=n2_;clear n0_ n1_ n2_ hg hw hp_;have p8 : 0 ≤ (x5_1 : Int):=of_decide_eq_true (by first | (with_reducible assumption) | assumption);have q8 : (x5_1 : Int) < ((x0_1.length : Int) : Int):=of_decide_eq_true (by first | (with_reducible assumption) | assumption);obtain ⟨ce8,hcl8,hM8,hcc8,hfr8⟩:=Kd.R_elem HO_0.out z134 (x5_1 : Int) p8 q8;obtain rfl:=k134_openM hM8;have hx8_0 : w17.cell? ⟨go5,(x5_1 : Int).toNat * 6,none⟩ = some (.int .i64 ((rd_T134 y369 x5_1).f0)):=hcc8 0 _ rfl;have hx8_1 : w17.cell? ⟨go5,(x5_1 : Int).toNat * 6 + 1,none⟩ = some (.int .i64 ((rd_T134 y369 x5_1).f1)):=hcc8 1 _ rfl;have hx8_2 : w17.cell? ⟨go5,(x5_1 : Int).toNat * 6 + 2,none⟩ = some (.int .i64 ((rd_T134 y369 x5_1).f2.f0)):=hcc8 2 _ rfl;have hx8_3 : w17.cell? ⟨go5,(x5_1 : Int).toNat * 6 + 3,none⟩ = some (.int .i64 ((rd_T134 y369 x5_1).f2.f1)):=hcc8 3 _ rfl;have hx8_4 : w17.cell? ⟨go5,(x5_1 : Int).toNat * 6 + 4,none⟩ = some (.int .i64 ((rd_T134 y369 x5_1).f2.f2)):=hcc8 4 _ rfl;have hx8_5 : w17.cell? ⟨go5,(x5_1 : Int).toNat * 6 + 5,none⟩ = some (.int .i64 ((rd_T134 y369 x5_1).f2.f3)):=hcc8 5 _ rfl;have hf8_0 : w17.frozen? ⟨go5,(x5_1 : Int).toNat * 6,none⟩ = false:=hfr8 0;have hf8_1 : w17.frozen? ⟨go5,(x5_1 : Int).toNat * 6 + 1,none⟩ = false:=hfr8 1;have hf8_2 : w17.frozen? ⟨go5,(x5_1 : Int).toNat * 6 + 2,none⟩ = false:=hfr8 2;have hf8_3 : w17.frozen? ⟨go5,(x5_1 : Int).toNat * 6 + 3,none⟩ = false:=hfr8 3;have hf8_4 : w17.frozen? ⟨go5,(x5_1 : Int).toNat * 6 + 4,none⟩ = false:=hfr8 4;have hf8_5 : w17.frozen? ⟨go5,(x5_1 : Int).toNat * 6 + 5,none⟩ = false:=hfr8 5;clear hcl8 hcc8 hfr8 hM8;replace p8:=eq_true p8;replace q8:=eq_true q8;have HX18:=ak (show Kd.R k134 134 w17 w0.heap.size (fun k_=>(P0_ k_ ∨ w.heap.size ≤ k_)) (.slice (some ⟨go5,0,none⟩) x0_1.length co11) y369 from (rr HO_0.out));obtain ⟨ce18,hcl18,hM18,hcc18,hfr18⟩:=Kd.R_elem HX18.out z134 (x5_1 : Int) (of_decide_eq_true (by first | (with_reducible assumption) | assumption)) (by have h_ : (x5_1 : Int) < ((x0_1.length : Int) : Int):=of_decide_eq_true (by first | (with_reducible assumption) | assumption);first | exact h_ | (have e_:=(Kd.R_reads' HO_0.out).1;omega) | simpa using h_);obtain rfl:=k134_openM hM18;have HP18:=Kd.R_seg HX18.out (x5_1 : Int) (of_decide_eq_true (by first | (with_reducible assumption) | assumption)) (by have h_ : (x5_1 : Int) < ((x0_1.length : Int) : Int):=of_decide_eq_true (by first | (with_reducible assumption) | assumption);first | exact h_ | (have e_:=(Kd.R_reads' HO_0.out).1;omega) | simpa using h_) (seg:=[.int .i64 (wrap64 ((wrap64 ((wrap64 (x1_1 + 1)) + 1)) + 1))]) (j:=3) hcl18 hcc18 (show 4 ≤ 6 from by decide) (x':=(⟨(rd_T134 y369 x5_1).f0,(rd_T134 y369 x5_1).f1,(⟨(rd_T134 y369 x5_1).f2.f0,wrap64 ((wrap64 ((wrap64 (x1_1 + 1)) + 1)) + 1),(rd_T134 y369 x5_1).f2.f2,(rd_T134 y369 x5_1).f2.f3⟩ : S34)⟩ : S134)) (k134_mkM _ _ _ (⟨(rd_T134 y369 x5_1).f0,(rd_T134 y369 x5_1).f1,(⟨(rd_T134 y369 x5_1).f2.f0,wrap64 ((wrap64 ((wrap64 (x1_1 + 1)) + 1)) + 1),(rd_T134 y369 x5_1).f2.f2,(rd_T134 y369 x5_1).f2.f3⟩ : S34)⟩ : S134) ) (fun _ hk=>hk);have hx18_3:=hcc18 3 _ rfl;(try simp only [show (k134).sz = 6 from rfl,Nat.mul_one,Nat.add_zero] at hx18_3);have hf18_3:=hfr18 3;(try simp only [show (k134).sz = 6 from rfl,Nat.mul_one,Nat.add_zero] at hf18_3);clear hcl18 hcc18 hfr18 hM18) | ((with_reducible refine gate_store (t:=3) (p:=39) rfl ?_);refine store_event (t:=3) (p:=39) (v:=?vo_w19) (w1:=(w17.setCell ⟨go5,(x5_1 : Int).toNat * 6 + 3,none⟩ (.int .i64 (wrap64 ((wrap64 ((wrap64 (x1_1 + 1)) + 1)) + 1))))) ?hg ?ho ?hn ?hr ?_;(case ho=>rfl);(case hg=>rfl);(case hn=>rfl);(case hr=>first | (go_simp;done) | (go_simp;rfl));intro w19 hw;have hg : w17.grownBy w19 (some go5):=(by rw [hw];exact HP18.2);have hp_ : Kd.R k134 134 w19 w0.heap.size (fun k_=>(P0_ k_ ∨ w.heap.size ≤ k_)) (.slice (some ⟨go5,0,none⟩) x0_1.length co11) y370:=(by rw [hw,Ny370.out];exact HP18.1);clear HP18;have n0_:=ak (hp_);have n1_:=ak ((by rw [hw];exact below_set (HB.out) GB5.out : Below w0.heap.size w0 w19));have n2_:=ak (Kept.of_grown (S:=(fun k_=>P0_ k_)) hg (by repeat (first | (with_reducible first | exact HK.out | apply Kept.alloc | apply Kept.drewN | apply Kept.drew) | exact HK.out)) (fun k_ e_=>(HO_0.out.1 k_ e_)));clear HO_0 HB HK;have HO_0:=n0_;have HB:=n1_;have HK:=n2_;clear n0_ n1_ n2_ hg hw hp_;have p9 : 0 ≤ (x5_1 : Int):=of_decide_eq_true (by first | (with_reducible assumption) | assumption);have q9 : (x5_1 : Int) < ((x0_1.length : Int) : Int):=of_decide_eq_true (by first | (with_reducible assumption) | assumption);obtain ⟨ce9,hcl9,hM9,hcc9,hfr9⟩:=Kd.R_elem HO_0.out z134 (x5_1 : Int) p9 q9;obtain rfl:=k134_openM hM9;have hx9_0 : w19.cell? ⟨go5,(x5_1 : Int).toNat * 6,none⟩ = some (.int .i64 ((rd_T134 y370 x5_1).f0)):=hcc9 0 _ rfl;have hx9_1 : w19.cell? ⟨go5,(x5_1 : Int).toNat * 6 + 1,none⟩ = some (.int .i64 ((rd_T134 y370 x5_1).f1)):=hcc9 1 _ rfl;have hx9_2 : w19.cell? ⟨go5,(x5_1 : Int).toNat * 6 + 2,none⟩ = some (.int .i64 ((rd_T134 y370 x5_1).f2.f0)):=hcc9 2 _ rfl;have hx9_3 : w19.cell? ⟨go5,(x5_1 : Int).toNat * 6 + 3,none⟩ = some (.int .i64 ((rd_T134 y370 x5_1).f2.f1)):=hcc9 3 _ rfl;have hx9_4 : w19.cell? ⟨go5,(x5_1 : Int).toNat * 6 + 4,none⟩ = some (.int .i64 ((rd_T134 y370 x5_1).f2.f2)):=hcc9 4 _ rfl;have hx9_5 : w19.cell? ⟨go5,(x5_1 : Int).toNat * 6 + 5,none⟩ = some (.int .i64 ((rd_T134 y370 x5_1).f2.f3)):=hcc9 5 _ rfl;have hf9_0 : w19.frozen? ⟨go5,(x5_1 : Int).toNat * 6,none⟩ = false:=hfr9 0;have hf9_1 : w19.frozen? ⟨go5,(x5_1 : Int).toNat * 6 + 1,none⟩ = false:=hfr9 1;have hf9_2 : w19.frozen? ⟨go5,(x5_1 : Int).toNat * 6 + 2,none⟩ = false:=hfr9 2;have hf9_3 : w19.frozen? ⟨go5,(x5_1 : Int).toNat * 6 + 3,none⟩ = false:=hfr9 3;have hf9_4 : w19.frozen? ⟨go5,(x5_1 : Int).toNat * 6 + 4,none⟩ = false:=hfr9 4;have hf9_5 : w19.frozen? ⟨go5,(x5_1 : Int).toNat * 6 + 5,none⟩ = false:=hfr9 5;clear hcl9 hcc9 hfr9 hM9;replace p9:=eq_true p9;replace q9:=eq_true q9;have HX20:=ak (show Kd.R k134 134 w19 w0.heap.size (fun k_=>(P0_ k_ ∨ w.heap.size ≤ k_)) (.slice (some ⟨go5,0,none⟩) x0_1.length co11) y370 from (rr HO_0.out));obtain ⟨ce20,hcl20,hM20,hcc20,hfr20⟩:=Kd.R_elem HX20.out z134 (x5_1 : Int) (of_decide_eq_true (by first | (with_reducible assumption) | assumption)) (by have h_ : (x5_1 : Int) < ((x0_1.length : Int) : Int):=of_decide_eq_true (by first | (with_reducible assumption) | assumption);first | exact h_ | (have e_:=(Kd.R_reads' HO_0.out).1;omega) | simpa using h_);obtain rfl:=k134_openM hM20;have HP20:=Kd.R_seg HX20.out (x5_1 : Int) (of_decide_eq_true (by first | (with_reducible assumption) | assumption)) (by have h_ : (x5_1 : Int) < ((x0_1.length : Int) : Int):=of_decide_eq_true (by first | (with_reducible assumption) | assumption);first | exact h_ | (have e_:=(Kd.R_reads' HO_0.out).1;omega) | simpa using h_) (seg:=[.int .i64 (wrap64 ((wrap64 ((wrap64 ((wrap64 (x1_1 + 1)) + 1)) + 1)) + 1))]) (j:=4) hcl20 hcc20 (show 5 ≤ 6 from by decide) (x':=(⟨(rd_T134 y370 x5_1).f0,(rd_T134 y370 x5_1).f1,(⟨(rd_T134 y370 x5_1).f2.f0,(rd_T134 y370 x5_1).f2.f1,wrap64 ((wrap64 ((wrap64 ((wrap64 (x1_1 + 1)) + 1)) + 1)) + 1),(rd_T134 y370 x5_1).f2.f3⟩ : S34)⟩ : S134)) (k134_mkM _ _ _ (⟨(rd_T134 y370 x5_1).f0,(rd_T134 y370 x5_1).f1,(⟨(rd_T134 y370 x5_1).f2.f0,(rd_T134 y370 x5_1).f2.f1,wrap64 ((wrap64 ((wrap64 ((wrap64 (x1_1 + 1)) + 1)) + 1)) + 1),(rd_T134 y370 x5_1).f2.f3⟩ : S34)⟩ : S134) ) (fun _ hk=>hk);have hx20_4:=hcc20 4 _ rfl;(try simp only [show (k134).sz = 6 from rfl,Nat.mul_one,Nat.add_zero] at hx20_4);have hf20_4:=hfr20 4;(try simp only [show (k134).sz = 6 from rfl,Nat.mul_one,Nat.add_zero] at hf20_4);clear hcl20 hcc20 hfr20 hM20) | ((with_reducible refine gate_store (t:=3) (p:=47) rfl ?_);refine store_event (t:=3) (p:=47) (v:=?vo_w21) (w1:=(w19.setCell ⟨go5,(x5_1 : Int).toNat * 6 + 4,none⟩ (.int .i64 (wrap64 ((wrap64 ((wrap64 ((wrap64 (x1_1 + 1)) + 1)) + 1)) + 1))))) ?hg ?ho ?hn ?hr ?_;(case ho=>rfl);(case hg=>rfl);(case hn=>rfl);(case hr=>first | (go_simp;done) | (go_simp;rfl));intro w21 hw;have hg : w19.grownBy w21 (some go5):=(by rw [hw];exact HP20.2);have hp_ : Kd.R k134 134 w21 w0.heap.size (fun k_=>(P0_ k_ ∨ w.heap.size ≤ k_)) (.slice (some ⟨go5,0,none⟩) x0_1.length co11) y371:=(by rw [hw,Ny371.out];exact HP20.1);clear HP20;have n0_:=ak (hp_);have n1_:=ak ((by rw [hw];exact below_set (HB.out) GB5.out : Below w0.heap.size w0 w21));have n2_:=ak (Kept.of_grown (S:=(fun k_=>P0_ k_)) hg (by repeat (first | (with_reducible first | exact HK.out | apply Kept.alloc | apply Kept.drewN | apply Kept.drew) | exact HK.out)) (fun k_ e_=>(HO_0.out.1 k_ e_)));clear HO_0 HB HK;have HO_0:=n0_;have HB:=n1_;have HK:=n2_;clear n0_ n1_ n2_ hg hw hp_;have p10 : 0 ≤ (x5_1 : Int):=of_decide_eq_true (by first | (with_reducible assumption) | assumption);have q10 : (x5_1 : Int) < ((x0_1.length : Int) : Int):=of_decide_eq_true (by first | (with_reducible assumption) | assumption);obtain ⟨ce10,hcl10,hM10,hcc10,hfr10⟩:=Kd.R_elem HO_0.out z134 (x5_1 : Int) p10 q10;obtain rfl:=k134_openM hM10;have hx10_0 : w21.cell? ⟨go5,(x5_1 : Int).toNat * 6,none⟩ = some (.int .i64 ((rd_T134 y371 x5_1).f0)):=hcc10 0 _ rfl;have hx10_1 : w21.cell? ⟨go5,(x5_1 : Int).toNat * 6 + 1,none⟩ = some (.int .i64 ((rd_T134 y371 x5_1).f1)):=hcc10 1 _ rfl;have hx10_2 : w21.cell? ⟨go5,(x5_1 : Int).toNat * 6 + 2,none⟩ = some (.int .i64 ((rd_T134 y371 x5_1).f2.f0)):=hcc10 2 _ rfl;have hx10_3 : w21.cell? ⟨go5,(x5_1 : Int).toNat * 6 + 3,none⟩ = some (.int .i64 ((rd_T134 y371 x5_1).f2.f1)):=hcc10 3 _ rfl;have hx10_4 : w21.cell? ⟨go5,(x5_1 : Int).toNat * 6 + 4,none⟩ = some (.int .i64 ((rd_T134 y371 x5_1).f2.f2)):=hcc10 4 _ rfl;have hx10_5 : w21.cell? ⟨go5,(x5_1 : Int).toNat * 6 + 5,none⟩ = some (.int .i64 ((rd_T134 y371 x5_1).f2.f3)):=hcc10 5 _ rfl;have hf10_0 : w21.frozen? ⟨go5,(x5_1 : Int).toNat * 6,none⟩ = false:=hfr10 0;have hf10_1 : w21.frozen? ⟨go5,(x5_1 : Int).toNat * 6 + 1,none⟩ = false:=hfr10 1;have hf10_2 : w21.frozen? ⟨go5,(x5_1 : Int).toNat * 6 + 2,none⟩ = false:=hfr10 2;have hf10_3 : w21.frozen? ⟨go5,(x5_1 : Int).toNat * 6 + 3,none⟩ = false:=hfr10 3;have hf10_4 : w21.frozen? ⟨go5,(x5_1 : Int).toNat * 6 + 4,none⟩ = false:=hfr10 4;have hf10_5 : w21.frozen? ⟨go5,(x5_1 : Int).toNat * 6 + 5,none⟩ = false:=hfr10 5;clear hcl10 hcc10 hfr10 hM10;replace p10:=eq_true p10;replace q10:=eq_true q10;have HX22:=ak (show Kd.R k134 134 w21 w0.heap.size (fun k_=>(P0_ k_ ∨ w.heap.size ≤ k_)) (.slice (some ⟨go5,0,none⟩) x0_1.length co11) y371 from (rr HO_0.out));obtain ⟨ce22,hcl22,hM22,hcc22,hfr22⟩:=Kd.R_elem HX22.out z134 (x5_1 : Int) (of_decide_eq_true (by first | (with_reducible assumption) | assumption)) (by have h_ : (x5_1 : Int) < ((x0_1.length : Int) : Int):=of_decide_eq_true (by first | (with_reducible assumption) | assumption);first | exact h_ | (have e_:=(Kd.R_reads' HO_0.out).1;omega) | simpa using h_);obtain rfl:=k134_openM hM22;have HP22:=Kd.R_seg HX22.out (x5_1 : Int) (of_decide_eq_true (by first | (with_reducible assumption) | assumption)) (by have h_ : (x5_1 : Int) < ((x0_1.length : Int) : Int):=of_decide_eq_true (by first | (with_reducible assumption) | assumption);first | exact h_ | (have e_:=(Kd.R_reads' HO_0.out).1;omega) | simpa using h_) (seg:=[.int .i64 (wrap64 ((wrap64 ((wrap64 ((wrap64 ((wrap64 (x1_1 + 1)) + 1)) + 1)) + 1)) + 1))]) (j:=5) hcl22 hcc22 (show 6 ≤ 6 from by decide) (x':=(⟨(rd_T134 y371 x5_1).f0,(rd_T134 y371 x5_1).f1,(⟨(rd_T134 y371 x5_1).f2.f0,(rd_T134 y371 x5_1).f2.f1,(rd_T134 y371 x5_1).f2.f2,wrap64 ((wrap64 ((wrap64 ((wrap64 ((wrap64 (x1_1 + 1)) + 1)) + 1)) + 1)) + 1)⟩ : S34)⟩ : S134)) (k134_mkM _ _ _ (⟨(rd_T134 y371 x5_1).f0,(rd_T134 y371 x5_1).f1,(⟨(rd_T134 y371 x5_1).f2.f0,(rd_T134 y371 x5_1).f2.f1,(rd_T134 y371 x5_1).f2.f2,wrap64 ((wrap64 ((wrap64 ((wrap64 ((wrap64 (x1_1 + 1)) + 1)) + 1)) + 1)) + 1)⟩ : S34)⟩ : S134) ) (fun _ hk=>hk);have hx22_5:=hcc22 5 _ rfl;(try simp only [show (k134).sz = 6 from rfl,Nat.mul_one,Nat.add_zero] at hx22_5);have hf22_5:=hfr22 5;(try simp only [show (k134).sz = 6 from rfl,Nat.mul_one,Nat.add_zero] at hf22_5);clear hcl22 hcc22 hfr22 hM22) | ((with_reducible refine gate_store (t:=3) (p:=55) rfl ?_);refine store_event (t:=3) (p:=55) (v:=?vo_w23) (w1:=(w21.setCell ⟨go5,(x5_1 : Int).toNat * 6 + 5,none⟩ (.int .i64 (wrap64 ((wrap64 ((wrap64 ((wrap64 ((wrap64 (x1_1 + 1)) + 1)) + 1)) + 1)) + 1))))) ?hg ?ho ?hn ?hr ?_;(case ho=>rfl);(case hg=>rfl);(case hn=>rfl);(case hr=>first | (go_simp;done) | (go_simp;rfl));intro w23 hw;have hg : w21.grownBy w23 (some go5):=(by rw [hw];exact HP22.2);have hp_ : Kd.R k134 134 w23 w0.heap.size (fun k_=>(P0_ k_ ∨ w.heap.size ≤ k_)) (.slice (some ⟨go5,0,none⟩) x0_1.length co11) y372:=(by rw [hw,Ny372.out];exact HP22.1);clear HP22;have n0_:=ak (hp_);have n1_:=ak ((by rw [hw];exact below_set (HB.out) GB5.out : Below w0.heap.size w0 w23));have n2_:=ak (Kept.of_grown (S:=(fun k_=>P0_ k_)) hg (by repeat (first | (with_reducible first | exact HK.out | apply Kept.alloc | apply Kept.drewN | apply Kept.drew) | exact HK.out)) (fun k_ e_=>(HO_0.out.1 k_ e_)));clear HO_0 HB HK;have HO_0:=n0_;have HB:=n1_;have HK:=n2_;clear n0_ n1_ n2_ hg hw hp_))
   go_roundg k1
   case measure=>have:=HK1.out;omega
   case rel=>exact ⟨(y372),(wrap64 ((wrap64 ((wrap64 ((wrap64 ((wrap64 ((wrap64 (x1_1 + 1)) + 1)) + 1)) + 1)) + 1)) + 1)),(wrap64 (x5_1 + 1)),(by first | rfl | (simp;done) | (simp [*];done)),(by first | rfl | (simp;done) | (simp [*];done)),H',⟨by have:=HK1.out;omega⟩,⟨rr HO_0.out⟩,⟨by repeat (first | (with_reducible first | exact HK.out | apply Kept.alloc | apply Kept.drewN | apply Kept.drew) | exact HK.out)⟩,⟨rbx HB⟩⟩

/-! ### laws_markIntS: function 70 -/
def laws_markIntS.l0 : Nat→List Int→Int→Int→Option (Int × List Int)
 | 0,_,_,_=>none
 | k + 1,x0,x1,x5=>if x5 < (x0.length : Int) then (if 0 ≤ x5 then (laws_markIntS.l0 k (x0.set (x5 : Int).toNat x1) (wrap64 (x1 + 1)) (wrap64 (x5 + 1))) else (none)) else (some (x1,x0))
def laws_markIntS.f (k : Nat) (l0 : List Int) (a1 : Int) : Option (Int × List Int):=laws_markIntS.l0 k l0 a1 0
theorem laws_markIntS.mono_l : ∀ k,(∀ y0 y1 y2,LeO (laws_markIntS.l0 k y0 y1 y2) (laws_markIntS.l0 (k + 1) y0 y1 y2))
 | 0=>fun _ _ _ r h=>by simp [laws_markIntS.l0] at h
 | k + 1=>by
  have ih0:=laws_markIntS.mono_l k
  ·intro y0 y1 y2
   unfold laws_markIntS.l0
   repeat' first
   | (with_reducible apply ih0)
   | (with_reducible exact LeO.refl _)
   | (with_reducible exact LeO.none _)
   | (with_reducible refine LeO.ite ?_ ?_)
   | (with_reducible refine LeO.bind ?_ (fun _=>?_))
   | apply ih0
   | exact LeO.none _
   | refine LeO.ite ?_ ?_
   | refine LeO.bind ?_ (fun _=>?_)
theorem laws_markIntS.mono : ∀ a0 a1 k,LeO (laws_markIntS.f k a0 a1) (laws_markIntS.f (k + 1) a0 a1):=by
 intro a0 a1 k
 have ih0:=laws_markIntS.mono_l k
 unfold laws_markIntS.f
 repeat' first
   | (with_reducible apply ih0)
   | (with_reducible exact LeO.refl _)
   | (with_reducible exact LeO.none _)
   | (with_reducible refine LeO.ite ?_ ?_)
   | (with_reducible refine LeO.bind ?_ (fun _=>?_))
   | apply ih0
   | exact LeO.none _
   | refine LeO.ite ?_ ?_
   | refine LeO.bind ?_ (fun _=>?_)
set_option maxHeartbeats 8000000 in
theorem laws_markIntS.calls (k : Nat) (P0_ : Nat→Prop) (u9000_ : Value) (l0 : List Int) (a1 : Int) (r1 : Int) (r2 : List Int) (w0 w : World) (hB : Below w0.heap.size w0 w) (ho0 : Kd.R (Kd.int .i64) 3 w w0.heap.size P0_ u9000_ l0) (h : laws_markIntS.f k l0 a1 = some (r1,r2)) :
  Calls Try.prog 70 #[u9000_,.int .i64 a1] w fun e w'=>e = .returned (.int .i64 r1)∧Kd.R (Kd.int .i64) 3 w' w0.heap.size (fun k_=>(P0_ k_ ∨ w.heap.size ≤ k_)) u9000_ r2∧Below w0.heap.size w0 w'∧Kept w w' (fun k_=>P0_ k_):=by
 have HO0:=ak (show Kd.R (Kd.int .i64) 3 w w0.heap.size (fun k_=>(P0_ k_ ∨ w.heap.size ≤ k_)) u9000_ l0 from Kd.R_mono ho0 (fun k_ hk=>(.inl hk)))
 have HK:=ak (Kept.refl w (fun k_=>P0_ k_))
 have HW0:=ak hB.size
 have HB:=ak hB
 clear hB
 have H : (laws_markIntS.l0 k l0 a1 0) = some (r1,r2):=h
 clear h
 have H':=ak H
 clear H
 go_enter Try.func70,Try.ntmps70
 go_wp2
 go_loopg [1,5] k (fun kq v1 v5 w'=>∃ (x0_1 : List Int) (x1_1 : Int) (x5_1 : Int),v1 = .int .i64 x1_1∧v5 = .int .i64 x5_1∧Aside0 (laws_markIntS.l0 kq x0_1 x1_1 x5_1 = some (r1,r2))∧Aside0 (kq ≤ k)∧Aside0 (Kd.R (Kd.int .i64) 3 w' w0.heap.size (fun k_=>(P0_ k_ ∨ w.heap.size ≤ k_)) u9000_ x0_1)∧Aside0 (Kept w w' (fun k_=>P0_ k_))∧Aside0 (Below w0.heap.size w0 w'))
 case atStart=>exact ⟨(l0),(a1),(0),(by first | rfl | (simp;done) | (simp [*];done)),(by first | rfl | (simp;done) | (simp [*];done)),H',⟨Nat.le_refl _⟩,⟨rr HO0.out⟩,⟨by repeat (first | (with_reducible first | exact HK.out | apply Kept.alloc | apply Kept.drewN | apply Kept.drew) | exact HK.out)⟩,⟨rbx HB⟩⟩
 case round =>
  clear H'
  try clear p2
  obtain ⟨x0_1,x1_1,x5_1,rfl,rfl,HA,HK1,HO_0,HK,HB⟩:=hrel
  cases gk with
  | zero=>exact absurd HA.out (by simp [laws_markIntS.l0])
  | succ k1 =>
   have H:=HA.out
   clear HA
   simp only [laws_markIntS.l0] at H
   by_cases c3 : x5_1 < (x0_1.length : Int)
   rotate_left
   ·rw [if_neg c3] at H
    have c3b0 : decide (x5_1 < (x0_1.length : Int)) = false:=decide_eq_false c3
    clear c3
    simp only [Option.some.injEq,Prod.mk.injEq] at H
    obtain ⟨rfl,rfl⟩:=H
    obtain ⟨Ao9,co9,eo9⟩:=Kd.R_slice HO_0.out
    subst eo9
    go_wp2
    go_ret
    exact ⟨by first | rfl | (simp [errW_none,errW_some] <;> rfl) | (simp [*,errW_none,errW_some] <;> rfl),rr HO_0.out,rbx HB,by repeat (first | (with_reducible first | exact HK.out | apply Kept.alloc | apply Kept.drewN | apply Kept.drew) | exact HK.out)⟩
   rw [if_pos c3] at H
   have c3b0 : decide (x5_1 < (x0_1.length : Int)) = true:=decide_eq_true c3
   clear c3
   by_cases c4 : 0 ≤ x5_1
   rotate_left
   ·rw [if_neg c4] at H
    exact absurd H (by simp)
   rw [if_pos c4] at H
   have c4b0 : decide (0 ≤ x5_1) = true:=decide_eq_true c4
   clear c4
   obtain ⟨y373,hy373⟩ : ∃ y_ : List Int,y_ = (x0_1.set (x5_1 : Int).toNat x1_1):=⟨_,rfl⟩
   replace H : (laws_markIntS.l0 k1 y373 (wrap64 (x1_1 + 1)) (wrap64 (x5_1 + 1))) = some (r1,r2):=by first | (rw [hy373];with_reducible exact H) | (have H2_:=(Option.bind_some _ _).symm.trans H;rw [hy373];with_reducible exact H2_) | (have H2_:=(Option.bind_some _ _).symm.trans H;with_reducible exact H2_) | with_reducible exact H | (rw [hy373];exact H) | exact H
   have Ny373:=ak hy373
   clear hy373
   have H':=ak H
   clear H
   obtain ⟨Ao6,co6,eo6⟩:=Kd.R_slice HO_0.out
   subst eo6
   have p5 : 0 ≤ (x5_1 : Int):=of_decide_eq_true (by first | (with_reducible assumption) | assumption)
   have q5 : (x5_1 : Int) < ((x0_1.length : Int) : Int):=of_decide_eq_true (by first | (with_reducible assumption) | assumption)
   obtain ⟨go5,co5,eo5,gb5,gl5,cl5,HG5⟩:=Kd.R_form HO_0.out (by omega)
   (first | cases eo5 | (injection eo5 with ea_ en_ ec_;(first | subst ea_ | (injection ea_ with ea_;subst ea_));subst ec_;clear en_))
   have GB5:=ak gb5
   have GG5:=ak HG5
   clear gb5 gl5 HG5
   have HMgo5:=ak (show (P0_ go5 ∨ w.heap.size ≤ go5) from (HO_0.out.1 _ rfl))
   obtain ⟨hx5_0,hf5_0⟩:=Kd.R_celln 0 HO_0.out (x5_1 : Int) p5 q5
   replace p5:=eq_true p5
   replace q5:=eq_true q5
   have HP7:=Kd.R_putg HO_0.out (x5_1 : Int) x1_1
   go_wp2_with (first | ((with_reducible refine gate_store (t:=3) (p:=15) rfl ?_);refine store_event (t:=3) (p:=15) (v:=?vo_w8) (w1:=(wr.setCell ⟨go5,(x5_1 : Int).toNat,none⟩ (.int .i64 x1_1))) ?hg ?ho ?hn ?hr ?_;(case ho=>rfl);(case hg=>rfl);(case hn=>rfl);(case hr=>first | (go_simp;done) | (go_simp;rfl));intro w8 hw;have hg : wr.grownBy w8 (some go5):=(by rw [hw];exact HP7.2);have hp_ : Kd.R (Kd.int .i64) 3 w8 w0.heap.size (fun k_=>(P0_ k_ ∨ w.heap.size ≤ k_)) (.slice (some ⟨go5,0,none⟩) x0_1.length co6) y373:=(by rw [hw,Ny373.out];exact HP7.1);clear HP7;have n0_:=ak (hp_);have n1_:=ak ((by rw [hw];exact below_set (HB.out) GB5.out : Below w0.heap.size w0 w8));have n2_:=ak (Kept.of_grown (S:=(fun k_=>P0_ k_)) hg (by repeat (first | (with_reducible first | exact HK.out | apply Kept.alloc | apply Kept.drewN | apply Kept.drew) | exact HK.out)) (fun k_ e_=>(HO_0.out.1 k_ e_)));clear HO_0 HB HK;have HO_0:=n0_;have HB:=n1_;have HK:=n2_;clear n0_ n1_ n2_ hg hw hp_))
   go_roundg k1
   case measure=>have:=HK1.out;omega
   case rel=>exact ⟨(y373),(wrap64 (x1_1 + 1)),(wrap64 (x5_1 + 1)),(by first | rfl | (simp;done) | (simp [*];done)),(by first | rfl | (simp;done) | (simp [*];done)),H',⟨by have:=HK1.out;omega⟩,⟨rr HO_0.out⟩,⟨by repeat (first | (with_reducible first | exact HK.out | apply Kept.alloc | apply Kept.drewN | apply Kept.drew) | exact HK.out)⟩,⟨rbx HB⟩⟩

/-! ### laws_markEarlyS: function 164 -/
def laws_markEarlyS.l0 : Nat→List (S127)→Int→Int→Option (Int × (List (S127)))
 | 0,_,_,_=>none
 | k + 1,x0,x1,x5=>if x5 < (x0.length : Int) then (if 0 ≤ x5 then ((some (x0.set (x5 : Int).toNat (⟨x1,(rd_T127 x0 x5).f1,(⟨(rd_T127 x0 x5).f2.f0,(rd_T127 x0 x5).f2.f1,(rd_T127 x0 x5).f2.f2,(rd_T127 x0 x5).f2.f3⟩ : S34)⟩ : S127) : List (S127))).bind fun y374=>((some (y374.set (x5 : Int).toNat (⟨(rd_T127 y374 x5).f0,wrap64 (x1 + 1),(⟨(rd_T127 y374 x5).f2.f0,(rd_T127 y374 x5).f2.f1,(rd_T127 y374 x5).f2.f2,(rd_T127 y374 x5).f2.f3⟩ : S34)⟩ : S127) : List (S127))).bind fun y375=>((some (y375.set (x5 : Int).toNat (⟨(rd_T127 y375 x5).f0,(rd_T127 y375 x5).f1,(⟨wrap64 ((wrap64 (x1 + 1)) + 1),(rd_T127 y375 x5).f2.f1,(rd_T127 y375 x5).f2.f2,(rd_T127 y375 x5).f2.f3⟩ : S34)⟩ : S127) : List (S127))).bind fun y376=>((some (y376.set (x5 : Int).toNat (⟨(rd_T127 y376 x5).f0,(rd_T127 y376 x5).f1,(⟨(rd_T127 y376 x5).f2.f0,wrap64 ((wrap64 ((wrap64 (x1 + 1)) + 1)) + 1),(rd_T127 y376 x5).f2.f2,(rd_T127 y376 x5).f2.f3⟩ : S34)⟩ : S127) : List (S127))).bind fun y377=>((some (y377.set (x5 : Int).toNat (⟨(rd_T127 y377 x5).f0,(rd_T127 y377 x5).f1,(⟨(rd_T127 y377 x5).f2.f0,(rd_T127 y377 x5).f2.f1,wrap64 ((wrap64 ((wrap64 ((wrap64 (x1 + 1)) + 1)) + 1)) + 1),(rd_T127 y377 x5).f2.f3⟩ : S34)⟩ : S127) : List (S127))).bind fun y378=>(laws_markEarlyS.l0 k (y378.set (x5 : Int).toNat (⟨(rd_T127 y378 x5).f0,(rd_T127 y378 x5).f1,(⟨(rd_T127 y378 x5).f2.f0,(rd_T127 y378 x5).f2.f1,(rd_T127 y378 x5).f2.f2,wrap64 ((wrap64 ((wrap64 ((wrap64 ((wrap64 (x1 + 1)) + 1)) + 1)) + 1)) + 1)⟩ : S34)⟩ : S127)) (wrap64 ((wrap64 ((wrap64 ((wrap64 ((wrap64 ((wrap64 (x1 + 1)) + 1)) + 1)) + 1)) + 1)) + 1)) (wrap64 (x5 + 1)))))))) else (none)) else (some (x1,x0))
def laws_markEarlyS.f (k : Nat) (l0 : List (S127)) (a1 : Int) : Option (Int × (List (S127))):=laws_markEarlyS.l0 k l0 a1 0
theorem laws_markEarlyS.mono_l : ∀ k,(∀ y0 y1 y2,LeO (laws_markEarlyS.l0 k y0 y1 y2) (laws_markEarlyS.l0 (k + 1) y0 y1 y2))
 | 0=>fun _ _ _ r h=>by simp [laws_markEarlyS.l0] at h
 | k + 1=>by
  have ih0:=laws_markEarlyS.mono_l k
  ·intro y0 y1 y2
   unfold laws_markEarlyS.l0
   repeat' first
   | (with_reducible apply ih0)
   | (with_reducible exact LeO.refl _)
   | (with_reducible exact LeO.none _)
   | (with_reducible refine LeO.ite ?_ ?_)
   | (with_reducible refine LeO.bind ?_ (fun _=>?_))
   | apply ih0
   | exact LeO.none _
   | refine LeO.ite ?_ ?_
   | refine LeO.bind ?_ (fun _=>?_)
theorem laws_markEarlyS.mono : ∀ a0 a1 k,LeO (laws_markEarlyS.f k a0 a1) (laws_markEarlyS.f (k + 1) a0 a1):=by
 intro a0 a1 k
 have ih0:=laws_markEarlyS.mono_l k
 unfold laws_markEarlyS.f
 repeat' first
   | (with_reducible apply ih0)
   | (with_reducible exact LeO.refl _)
   | (with_reducible exact LeO.none _)
   | (with_reducible refine LeO.ite ?_ ?_)
   | (with_reducible refine LeO.bind ?_ (fun _=>?_))
   | apply ih0
   | exact LeO.none _
   | refine LeO.ite ?_ ?_
   | refine LeO.bind ?_ (fun _=>?_)
set_option maxHeartbeats 8000000 in
theorem laws_markEarlyS.calls (k : Nat) (P0_ : Nat→Prop) (u9000_ : Value) (l0 : List (S127)) (a1 : Int) (r1 : Int) (r2 : List (S127)) (w0 w : World) (hB : Below w0.heap.size w0 w) (ho0 : Kd.R k127 127 w w0.heap.size P0_ u9000_ l0) (h : laws_markEarlyS.f k l0 a1 = some (r1,r2)) :
  Calls Try.prog 164 #[u9000_,.int .i64 a1] w fun e w'=>e = .returned (.int .i64 r1)∧Kd.R k127 127 w' w0.heap.size (fun k_=>(P0_ k_ ∨ w.heap.size ≤ k_)) u9000_ r2∧Below w0.heap.size w0 w'∧Kept w w' (fun k_=>P0_ k_):=by
 have HO0:=ak (show Kd.R k127 127 w w0.heap.size (fun k_=>(P0_ k_ ∨ w.heap.size ≤ k_)) u9000_ l0 from Kd.R_mono ho0 (fun k_ hk=>(.inl hk)))
 have HK:=ak (Kept.refl w (fun k_=>P0_ k_))
 have HW0:=ak hB.size
 have HB:=ak hB
 clear hB
 have H : (laws_markEarlyS.l0 k l0 a1 0) = some (r1,r2):=h
 clear h
 have H':=ak H
 clear H
 go_enter Try.func164,Try.ntmps164
 go_wp2
 go_loopg [1,5] k (fun kq v1 v5 w'=>∃ (x0_1 : List (S127)) (x1_1 : Int) (x5_1 : Int),v1 = .int .i64 x1_1∧v5 = .int .i64 x5_1∧Aside0 (laws_markEarlyS.l0 kq x0_1 x1_1 x5_1 = some (r1,r2))∧Aside0 (kq ≤ k)∧Aside0 (Kd.R k127 127 w' w0.heap.size (fun k_=>(P0_ k_ ∨ w.heap.size ≤ k_)) u9000_ x0_1)∧Aside0 (Kept w w' (fun k_=>P0_ k_))∧Aside0 (Below w0.heap.size w0 w'))
 case atStart=>exact ⟨(l0),(a1),(0),(by first | rfl | (simp;done) | (simp [*];done)),(by first | rfl | (simp;done) | (simp [*];done)),H',⟨Nat.le_refl _⟩,⟨rr HO0.out⟩,⟨by repeat (first | (with_reducible first | exact HK.out | apply Kept.alloc | apply Kept.drewN | apply Kept.drew) | exact HK.out)⟩,⟨rbx HB⟩⟩
 case round =>
  clear H'
  try clear c1
  try clear p2
  obtain ⟨x0_1,x1_1,x5_1,rfl,rfl,HA,HK1,HO_0,HK,HB⟩:=hrel
  cases gk with
  | zero=>exact absurd HA.out (by simp [laws_markEarlyS.l0])
  | succ k1 =>
   have H:=HA.out
   clear HA
   simp only [laws_markEarlyS.l0] at H
   by_cases c3 : x5_1 < (x0_1.length : Int)
   rotate_left
   ·rw [if_neg c3] at H
    have c3b0 : decide (x5_1 < (x0_1.length : Int)) = false:=decide_eq_false c3
    clear c3
    simp only [Option.some.injEq,Prod.mk.injEq] at H
    obtain ⟨rfl,rfl⟩:=H
    obtain ⟨Ao24,co24,eo24⟩:=Kd.R_slice HO_0.out
    subst eo24
    go_wp2
    go_ret
    exact ⟨by first | rfl | (simp [errW_none,errW_some] <;> rfl) | (simp [*,errW_none,errW_some] <;> rfl),rr HO_0.out,rbx HB,by repeat (first | (with_reducible first | exact HK.out | apply Kept.alloc | apply Kept.drewN | apply Kept.drew) | exact HK.out)⟩
   rw [if_pos c3] at H
   have c3b0 : decide (x5_1 < (x0_1.length : Int)) = true:=decide_eq_true c3
   clear c3
   by_cases c4 : 0 ≤ x5_1
   rotate_left
   ·rw [if_neg c4] at H
    exact absurd H (by simp)
   rw [if_pos c4] at H
   have c4b0 : decide (0 ≤ x5_1) = true:=decide_eq_true c4
   clear c4
   obtain ⟨y374,hy374⟩ : ∃ y_ : List (S127),y_ = (x0_1.set (x5_1 : Int).toNat (⟨x1_1,(rd_T127 x0_1 x5_1).f1,(⟨(rd_T127 x0_1 x5_1).f2.f0,(rd_T127 x0_1 x5_1).f2.f1,(rd_T127 x0_1 x5_1).f2.f2,(rd_T127 x0_1 x5_1).f2.f3⟩ : S34)⟩ : S127)):=⟨_,rfl⟩
   replace H : ((some (y374.set (x5_1 : Int).toNat (⟨(rd_T127 y374 x5_1).f0,wrap64 (x1_1 + 1),(⟨(rd_T127 y374 x5_1).f2.f0,(rd_T127 y374 x5_1).f2.f1,(rd_T127 y374 x5_1).f2.f2,(rd_T127 y374 x5_1).f2.f3⟩ : S34)⟩ : S127) : List (S127))).bind fun y375=>((some (y375.set (x5_1 : Int).toNat (⟨(rd_T127 y375 x5_1).f0,(rd_T127 y375 x5_1).f1,(⟨wrap64 ((wrap64 (x1_1 + 1)) + 1),(rd_T127 y375 x5_1).f2.f1,(rd_T127 y375 x5_1).f2.f2,(rd_T127 y375 x5_1).f2.f3⟩ : S34)⟩ : S127) : List (S127))).bind fun y376=>((some (y376.set (x5_1 : Int).toNat (⟨(rd_T127 y376 x5_1).f0,(rd_T127 y376 x5_1).f1,(⟨(rd_T127 y376 x5_1).f2.f0,wrap64 ((wrap64 ((wrap64 (x1_1 + 1)) + 1)) + 1),(rd_T127 y376 x5_1).f2.f2,(rd_T127 y376 x5_1).f2.f3⟩ : S34)⟩ : S127) : List (S127))).bind fun y377=>((some (y377.set (x5_1 : Int).toNat (⟨(rd_T127 y377 x5_1).f0,(rd_T127 y377 x5_1).f1,(⟨(rd_T127 y377 x5_1).f2.f0,(rd_T127 y377 x5_1).f2.f1,wrap64 ((wrap64 ((wrap64 ((wrap64 (x1_1 + 1)) + 1)) + 1)) + 1),(rd_T127 y377 x5_1).f2.f3⟩ : S34)⟩ : S127) : List (S127))).bind fun y378=>(laws_markEarlyS.l0 k1 (y378.set (x5_1 : Int).toNat (⟨(rd_T127 y378 x5_1).f0,(rd_T127 y378 x5_1).f1,(⟨(rd_T127 y378 x5_1).f2.f0,(rd_T127 y378 x5_1).f2.f1,(rd_T127 y378 x5_1).f2.f2,wrap64 ((wrap64 ((wrap64 ((wrap64 ((wrap64 (x1_1 + 1)) + 1)) + 1)) + 1)) + 1)⟩ : S34)⟩ : S127)) (wrap64 ((wrap64 ((wrap64 ((wrap64 ((wrap64 ((wrap64 (x1_1 + 1)) + 1)) + 1)) + 1)) + 1)) + 1)) (wrap64 (x5_1 + 1))))))) = some (r1,r2):=by first | (rw [hy374];with_reducible exact H) | (have H2_:=(Option.bind_some _ _).symm.trans H;rw [hy374];with_reducible exact H2_) | (have H2_:=(Option.bind_some _ _).symm.trans H;with_reducible exact H2_) | with_reducible exact H | (rw [hy374];exact H) | exact H
   have Ny374:=ak hy374
   clear hy374
   obtain ⟨y375,hy375⟩ : ∃ y_ : List (S127),y_ = (y374.set (x5_1 : Int).toNat (⟨(rd_T127 y374 x5_1).f0,wrap64 (x1_1 + 1),(⟨(rd_T127 y374 x5_1).f2.f0,(rd_T127 y374 x5_1).f2.f1,(rd_T127 y374 x5_1).f2.f2,(rd_T127 y374 x5_1).f2.f3⟩ : S34)⟩ : S127)):=⟨_,rfl⟩
   replace H : ((some (y375.set (x5_1 : Int).toNat (⟨(rd_T127 y375 x5_1).f0,(rd_T127 y375 x5_1).f1,(⟨wrap64 ((wrap64 (x1_1 + 1)) + 1),(rd_T127 y375 x5_1).f2.f1,(rd_T127 y375 x5_1).f2.f2,(rd_T127 y375 x5_1).f2.f3⟩ : S34)⟩ : S127) : List (S127))).bind fun y376=>((some (y376.set (x5_1 : Int).toNat (⟨(rd_T127 y376 x5_1).f0,(rd_T127 y376 x5_1).f1,(⟨(rd_T127 y376 x5_1).f2.f0,wrap64 ((wrap64 ((wrap64 (x1_1 + 1)) + 1)) + 1),(rd_T127 y376 x5_1).f2.f2,(rd_T127 y376 x5_1).f2.f3⟩ : S34)⟩ : S127) : List (S127))).bind fun y377=>((some (y377.set (x5_1 : Int).toNat (⟨(rd_T127 y377 x5_1).f0,(rd_T127 y377 x5_1).f1,(⟨(rd_T127 y377 x5_1).f2.f0,(rd_T127 y377 x5_1).f2.f1,wrap64 ((wrap64 ((wrap64 ((wrap64 (x1_1 + 1)) + 1)) + 1)) + 1),(rd_T127 y377 x5_1).f2.f3⟩ : S34)⟩ : S127) : List (S127))).bind fun y378=>(laws_markEarlyS.l0 k1 (y378.set (x5_1 : Int).toNat (⟨(rd_T127 y378 x5_1).f0,(rd_T127 y378 x5_1).f1,(⟨(rd_T127 y378 x5_1).f2.f0,(rd_T127 y378 x5_1).f2.f1,(rd_T127 y378 x5_1).f2.f2,wrap64 ((wrap64 ((wrap64 ((wrap64 ((wrap64 (x1_1 + 1)) + 1)) + 1)) + 1)) + 1)⟩ : S34)⟩ : S127)) (wrap64 ((wrap64 ((wrap64 ((wrap64 ((wrap64 ((wrap64 (x1_1 + 1)) + 1)) + 1)) + 1)) + 1)) + 1)) (wrap64 (x5_1 + 1)))))) = some (r1,r2):=by first | (rw [hy375];with_reducible exact H) | (have H2_:=(Option.bind_some _ _).symm.trans H;rw [hy375];with_reducible exact H2_) | (have H2_:=(Option.bind_some _ _).symm.trans H;with_reducible exact H2_) | with_reducible exact H | (rw [hy375];exact H) | exact H
   have Ny375:=ak hy375
   clear hy375
   obtain ⟨y376,hy376⟩ : ∃ y_ : List (S127),y_ = (y375.set (x5_1 : Int).toNat (⟨(rd_T127 y375 x5_1).f0,(rd_T127 y375 x5_1).f1,(⟨wrap64 ((wrap64 (x1_1 + 1)) + 1),(rd_T127 y375 x5_1).f2.f1,(rd_T127 y375 x5_1).f2.f2,(rd_T127 y375 x5_1).f2.f3⟩ : S34)⟩ : S127)):=⟨_,rfl⟩
   replace H : ((some (y376.set (x5_1 : Int).toNat (⟨(rd_T127 y376 x5_1).f0,(rd_T127 y376 x5_1).f1,(⟨(rd_T127 y376 x5_1).f2.f0,wrap64 ((wrap64 ((wrap64 (x1_1 + 1)) + 1)) + 1),(rd_T127 y376 x5_1).f2.f2,(rd_T127 y376 x5_1).f2.f3⟩ : S34)⟩ : S127) : List (S127))).bind fun y377=>((some (y377.set (x5_1 : Int).toNat (⟨(rd_T127 y377 x5_1).f0,(rd_T127 y377 x5_1).f1,(⟨(rd_T127 y377 x5_1).f2.f0,(rd_T127 y377 x5_1).f2.f1,wrap64 ((wrap64 ((wrap64 ((wrap64 (x1_1 + 1)) + 1)) + 1)) + 1),(rd_T127 y377 x5_1).f2.f3⟩ : S34)⟩ : S127) : List (S127))).bind fun y378=>(laws_markEarlyS.l0 k1 (y378.set (x5_1 : Int).toNat (⟨(rd_T127 y378 x5_1).f0,(rd_T127 y378 x5_1).f1,(⟨(rd_T127 y378 x5_1).f2.f0,(rd_T127 y378 x5_1).f2.f1,(rd_T127 y378 x5_1).f2.f2,wrap64 ((wrap64 ((wrap64 ((wrap64 ((wrap64 (x1_1 + 1)) + 1)) + 1)) + 1)) + 1)⟩ : S34)⟩ : S127)) (wrap64 ((wrap64 ((wrap64 ((wrap64 ((wrap64 ((wrap64 (x1_1 + 1)) + 1)) + 1)) + 1)) + 1)) + 1)) (wrap64 (x5_1 + 1))))) = some (r1,r2):=by first | (rw [hy376];with_reducible exact H) | (have H2_:=(Option.bind_some _ _).symm.trans H;rw [hy376];with_reducible exact H2_) | (have H2_:=(Option.bind_some _ _).symm.trans H;with_reducible exact H2_) | with_reducible exact H | (rw [hy376];exact H) | exact H
   have Ny376:=ak hy376
   clear hy376
   obtain ⟨y377,hy377⟩ : ∃ y_ : List (S127),y_ = (y376.set (x5_1 : Int).toNat (⟨(rd_T127 y376 x5_1).f0,(rd_T127 y376 x5_1).f1,(⟨(rd_T127 y376 x5_1).f2.f0,wrap64 ((wrap64 ((wrap64 (x1_1 + 1)) + 1)) + 1),(rd_T127 y376 x5_1).f2.f2,(rd_T127 y376 x5_1).f2.f3⟩ : S34)⟩ : S127)):=⟨_,rfl⟩
   replace H : ((some (y377.set (x5_1 : Int).toNat (⟨(rd_T127 y377 x5_1).f0,(rd_T127 y377 x5_1).f1,(⟨(rd_T127 y377 x5_1).f2.f0,(rd_T127 y377 x5_1).f2.f1,wrap64 ((wrap64 ((wrap64 ((wrap64 (x1_1 + 1)) + 1)) + 1)) + 1),(rd_T127 y377 x5_1).f2.f3⟩ : S34)⟩ : S127) : List (S127))).bind fun y378=>(laws_markEarlyS.l0 k1 (y378.set (x5_1 : Int).toNat (⟨(rd_T127 y378 x5_1).f0,(rd_T127 y378 x5_1).f1,(⟨(rd_T127 y378 x5_1).f2.f0,(rd_T127 y378 x5_1).f2.f1,(rd_T127 y378 x5_1).f2.f2,wrap64 ((wrap64 ((wrap64 ((wrap64 ((wrap64 (x1_1 + 1)) + 1)) + 1)) + 1)) + 1)⟩ : S34)⟩ : S127)) (wrap64 ((wrap64 ((wrap64 ((wrap64 ((wrap64 ((wrap64 (x1_1 + 1)) + 1)) + 1)) + 1)) + 1)) + 1)) (wrap64 (x5_1 + 1)))) = some (r1,r2):=by first | (rw [hy377];with_reducible exact H) | (have H2_:=(Option.bind_some _ _).symm.trans H;rw [hy377];with_reducible exact H2_) | (have H2_:=(Option.bind_some _ _).symm.trans H;with_reducible exact H2_) | with_reducible exact H | (rw [hy377];exact H) | exact H
   have Ny377:=ak hy377
   clear hy377
   obtain ⟨y378,hy378⟩ : ∃ y_ : List (S127),y_ = (y377.set (x5_1 : Int).toNat (⟨(rd_T127 y377 x5_1).f0,(rd_T127 y377 x5_1).f1,(⟨(rd_T127 y377 x5_1).f2.f0,(rd_T127 y377 x5_1).f2.f1,wrap64 ((wrap64 ((wrap64 ((wrap64 (x1_1 + 1)) + 1)) + 1)) + 1),(rd_T127 y377 x5_1).f2.f3⟩ : S34)⟩ : S127)):=⟨_,rfl⟩
   replace H : (laws_markEarlyS.l0 k1 (y378.set (x5_1 : Int).toNat (⟨(rd_T127 y378 x5_1).f0,(rd_T127 y378 x5_1).f1,(⟨(rd_T127 y378 x5_1).f2.f0,(rd_T127 y378 x5_1).f2.f1,(rd_T127 y378 x5_1).f2.f2,wrap64 ((wrap64 ((wrap64 ((wrap64 ((wrap64 (x1_1 + 1)) + 1)) + 1)) + 1)) + 1)⟩ : S34)⟩ : S127)) (wrap64 ((wrap64 ((wrap64 ((wrap64 ((wrap64 ((wrap64 (x1_1 + 1)) + 1)) + 1)) + 1)) + 1)) + 1)) (wrap64 (x5_1 + 1))) = some (r1,r2):=by first | (rw [hy378];with_reducible exact H) | (have H2_:=(Option.bind_some _ _).symm.trans H;rw [hy378];with_reducible exact H2_) | (have H2_:=(Option.bind_some _ _).symm.trans H;with_reducible exact H2_) | with_reducible exact H | (rw [hy378];exact H) | exact H
   have Ny378:=ak hy378
   clear hy378
   obtain ⟨y379,hy379⟩ : ∃ y_ : List (S127),y_ = (y378.set (x5_1 : Int).toNat (⟨(rd_T127 y378 x5_1).f0,(rd_T127 y378 x5_1).f1,(⟨(rd_T127 y378 x5_1).f2.f0,(rd_T127 y378 x5_1).f2.f1,(rd_T127 y378 x5_1).f2.f2,wrap64 ((wrap64 ((wrap64 ((wrap64 ((wrap64 (x1_1 + 1)) + 1)) + 1)) + 1)) + 1)⟩ : S34)⟩ : S127)):=⟨_,rfl⟩
   replace H : (laws_markEarlyS.l0 k1 y379 (wrap64 ((wrap64 ((wrap64 ((wrap64 ((wrap64 ((wrap64 (x1_1 + 1)) + 1)) + 1)) + 1)) + 1)) + 1)) (wrap64 (x5_1 + 1))) = some (r1,r2):=by first | (rw [hy379];with_reducible exact H) | (have H2_:=(Option.bind_some _ _).symm.trans H;rw [hy379];with_reducible exact H2_) | (have H2_:=(Option.bind_some _ _).symm.trans H;with_reducible exact H2_) | with_reducible exact H | (rw [hy379];exact H) | exact H
   have Ny379:=ak hy379
   clear hy379
   have H':=ak H
   clear H
   obtain ⟨Ao11,co11,eo11⟩:=Kd.R_slice HO_0.out
   subst eo11
   have p5 : 0 ≤ (x5_1 : Int):=of_decide_eq_true (by first | (with_reducible assumption) | assumption)
   have q5 : (x5_1 : Int) < ((x0_1.length : Int) : Int):=of_decide_eq_true (by first | (with_reducible assumption) | assumption)
   obtain ⟨go5,co5,eo5,gb5,gl5,cl5,HG5⟩:=Kd.R_form HO_0.out (by omega)
   (first | cases eo5 | (injection eo5 with ea_ en_ ec_;(first | subst ea_ | (injection ea_ with ea_;subst ea_));subst ec_;clear en_))
   have GB5:=ak gb5
   have GG5:=ak HG5
   clear gb5 gl5 HG5
   have HMgo5:=ak (show (P0_ go5 ∨ w.heap.size ≤ go5) from (HO_0.out.1 _ rfl))
   obtain ⟨ce5,hcl5,hM5,hcc5,hfr5⟩:=Kd.R_elem HO_0.out z127 (x5_1 : Int) p5 q5
   obtain rfl:=k127_openM hM5
   have hx5_0 : wr.cell? ⟨go5,(x5_1 : Int).toNat * 6,none⟩ = some (.int .i64 ((rd_T127 x0_1 x5_1).f0)):=hcc5 0 _ rfl
   have hx5_1 : wr.cell? ⟨go5,(x5_1 : Int).toNat * 6 + 1,none⟩ = some (.int .i64 ((rd_T127 x0_1 x5_1).f1)):=hcc5 1 _ rfl
   have hx5_2 : wr.cell? ⟨go5,(x5_1 : Int).toNat * 6 + 2,none⟩ = some (.int .i64 ((rd_T127 x0_1 x5_1).f2.f0)):=hcc5 2 _ rfl
   have hx5_3 : wr.cell? ⟨go5,(x5_1 : Int).toNat * 6 + 3,none⟩ = some (.int .i64 ((rd_T127 x0_1 x5_1).f2.f1)):=hcc5 3 _ rfl
   have hx5_4 : wr.cell? ⟨go5,(x5_1 : Int).toNat * 6 + 4,none⟩ = some (.int .i64 ((rd_T127 x0_1 x5_1).f2.f2)):=hcc5 4 _ rfl
   have hx5_5 : wr.cell? ⟨go5,(x5_1 : Int).toNat * 6 + 5,none⟩ = some (.int .i64 ((rd_T127 x0_1 x5_1).f2.f3)):=hcc5 5 _ rfl
   have hf5_0 : wr.frozen? ⟨go5,(x5_1 : Int).toNat * 6,none⟩ = false:=hfr5 0
   have hf5_1 : wr.frozen? ⟨go5,(x5_1 : Int).toNat * 6 + 1,none⟩ = false:=hfr5 1
   have hf5_2 : wr.frozen? ⟨go5,(x5_1 : Int).toNat * 6 + 2,none⟩ = false:=hfr5 2
   have hf5_3 : wr.frozen? ⟨go5,(x5_1 : Int).toNat * 6 + 3,none⟩ = false:=hfr5 3
   have hf5_4 : wr.frozen? ⟨go5,(x5_1 : Int).toNat * 6 + 4,none⟩ = false:=hfr5 4
   have hf5_5 : wr.frozen? ⟨go5,(x5_1 : Int).toNat * 6 + 5,none⟩ = false:=hfr5 5
   clear hcl5 hcc5 hfr5 hM5
   replace p5:=eq_true p5
   replace q5:=eq_true q5
   have HX12:=ak (show Kd.R k127 127 wr w0.heap.size (fun k_=>(P0_ k_ ∨ w.heap.size ≤ k_)) (.slice (some ⟨go5,0,none⟩) x0_1.length co11) x0_1 from (rr HO_0.out))
   obtain ⟨ce12,hcl12,hM12,hcc12,hfr12⟩:=Kd.R_elem HX12.out z127 (x5_1 : Int) (of_decide_eq_true (by first | (with_reducible assumption) | assumption)) (by have h_ : (x5_1 : Int) < ((x0_1.length : Int) : Int):=of_decide_eq_true (by first | (with_reducible assumption) | assumption);first | exact h_ | (have e_:=(Kd.R_reads' HO_0.out).1;omega) | simpa using h_)
   obtain rfl:=k127_openM hM12
   have HP12:=Kd.R_seg HX12.out (x5_1 : Int) (of_decide_eq_true (by first | (with_reducible assumption) | assumption)) (by have h_ : (x5_1 : Int) < ((x0_1.length : Int) : Int):=of_decide_eq_true (by first | (with_reducible assumption) | assumption);first | exact h_ | (have e_:=(Kd.R_reads' HO_0.out).1;omega) | simpa using h_) (seg:=[.int .i64 x1_1]) (j:=0) hcl12 hcc12 (show 1 ≤ 6 from by decide) (x':=(⟨x1_1,(rd_T127 x0_1 x5_1).f1,(⟨(rd_T127 x0_1 x5_1).f2.f0,(rd_T127 x0_1 x5_1).f2.f1,(rd_T127 x0_1 x5_1).f2.f2,(rd_T127 x0_1 x5_1).f2.f3⟩ : S34)⟩ : S127)) (k127_mkM _ _ _ (⟨x1_1,(rd_T127 x0_1 x5_1).f1,(⟨(rd_T127 x0_1 x5_1).f2.f0,(rd_T127 x0_1 x5_1).f2.f1,(rd_T127 x0_1 x5_1).f2.f2,(rd_T127 x0_1 x5_1).f2.f3⟩ : S34)⟩ : S127) ) (fun _ hk=>hk)
   have hx12_0:=hcc12 0 _ rfl
   (try simp only [show (k127).sz = 6 from rfl,Nat.mul_one,Nat.add_zero] at hx12_0)
   have hf12_0:=hfr12 0
   (try simp only [show (k127).sz = 6 from rfl,Nat.mul_one,Nat.add_zero] at hf12_0)
   clear hcl12 hcc12 hfr12 hM12
   go_wp2_with (first | ((with_reducible refine gate_store (t:=3) (p:=16) rfl ?_);refine store_event (t:=3) (p:=16) (v:=?vo_w13) (w1:=(wr.setCell ⟨go5,(x5_1 : Int).toNat * 6,none⟩ (.int .i64 x1_1))) ?hg ?ho ?hn ?hr ?_;(case ho=>rfl);(case hg=>rfl);(case hn=>rfl);(case hr=>first | (go_simp;done) | (go_simp;rfl));intro w13 hw;have hg : wr.grownBy w13 (some go5):=(by rw [hw];exact HP12.2);have hp_ : Kd.R k127 127 w13 w0.heap.size (fun k_=>(P0_ k_ ∨ w.heap.size ≤ k_)) (.slice (some ⟨go5,0,none⟩) x0_1.length co11) y374:=(by rw [hw,Ny374.out];exact HP12.1);clear HP12;have n0_:=ak (hp_);have n1_:=ak ((by rw [hw];exact below_set (HB.out) GB5.out : Below w0.heap.size w0 w13));have n2_:=ak (Kept.of_grown (S:=(fun k_=>P0_ k_)) hg (by repeat (first | (with_reducible first | exact HK.out | apply Kept.alloc | apply Kept.drewN | apply Kept.drew) | exact HK.out)) (fun k_ e_=>(HO_0.out.1 k_ e_)));clear HO_0 HB HK;have HO_0:=n0_;have HB:=n1_;have HK:=n2_;clear n0_ n1_ n2_ hg hw hp_;have p6 : 0 ≤ (x5_1 : Int):=of_decide_eq_true (by first | (with_reducible assumption) | assumption);have q6 : (x5_1 : Int) < ((x0_1.length : Int) : Int):=of_decide_eq_true (by first | (with_reducible assumption) | assumption);obtain ⟨ce6,hcl6,hM6,hcc6,hfr6⟩:=Kd.R_elem HO_0.out z127 (x5_1 : Int) p6 q6;obtain rfl:=k127_openM hM6;have hx6_0 : w13.cell? ⟨go5,(x5_1 : Int).toNat * 6,none⟩ = some (.int .i64 ((rd_T127 y374 x5_1).f0)):=hcc6 0 _ rfl;have hx6_1 : w13.cell? ⟨go5,(x5_1 : Int).toNat * 6 + 1,none⟩ = some (.int .i64 ((rd_T127 y374 x5_1).f1)):=hcc6 1 _ rfl;have hx6_2 : w13.cell? ⟨go5,(x5_1 : Int).toNat * 6 + 2,none⟩ = some (.int .i64 ((rd_T127 y374 x5_1).f2.f0)):=hcc6 2 _ rfl;have hx6_3 : w13.cell? ⟨go5,(x5_1 : Int).toNat * 6 + 3,none⟩ = some (.int .i64 ((rd_T127 y374 x5_1).f2.f1)):=hcc6 3 _ rfl;have hx6_4 : w13.cell? ⟨go5,(x5_1 : Int).toNat * 6 + 4,none⟩ = some (.int .i64 ((rd_T127 y374 x5_1).f2.f2)):=hcc6 4 _ rfl;have hx6_5 : w13.cell? ⟨go5,(x5_1 : Int).toNat * 6 + 5,none⟩ = some (.int .i64 ((rd_T127 y374 x5_1).f2.f3)):=hcc6 5 _ rfl;have hf6_0 : w13.frozen? ⟨go5,(x5_1 : Int).toNat * 6,none⟩ = false:=hfr6 0;have hf6_1 : w13.frozen? ⟨go5,(x5_1 : Int).toNat * 6 + 1,none⟩ = false:=hfr6 1;have hf6_2 : w13.frozen? ⟨go5,(x5_1 : Int).toNat * 6 + 2,none⟩ = false:=hfr6 2;have hf6_3 : w13.frozen? ⟨go5,(x5_1 : Int).toNat * 6 + 3,none⟩ = false:=hfr6 3;have hf6_4 : w13.frozen? ⟨go5,(x5_1 : Int).toNat * 6 + 4,none⟩ = false:=hfr6 4;have hf6_5 : w13.frozen? ⟨go5,(x5_1 : Int).toNat * 6 + 5,none⟩ = false:=hfr6 5;clear hcl6 hcc6 hfr6 hM6;replace p6:=eq_true p6;replace q6:=eq_true q6;have HX14:=ak (show Kd.R k127 127 w13 w0.heap.size (fun k_=>(P0_ k_ ∨ w.heap.size ≤ k_)) (.slice (some ⟨go5,0,none⟩) x0_1.length co11) y374 from (rr HO_0.out));obtain ⟨ce14,hcl14,hM14,hcc14,hfr14⟩:=Kd.R_elem HX14.out z127 (x5_1 : Int) (of_decide_eq_true (by first | (with_reducible assumption) | assumption)) (by have h_ : (x5_1 : Int) < ((x0_1.length : Int) : Int):=of_decide_eq_true (by first | (with_reducible assumption) | assumption);first | exact h_ | (have e_:=(Kd.R_reads' HO_0.out).1;omega) | simpa using h_);obtain rfl:=k127_openM hM14;have HP14:=Kd.R_seg HX14.out (x5_1 : Int) (of_decide_eq_true (by first | (with_reducible assumption) | assumption)) (by have h_ : (x5_1 : Int) < ((x0_1.length : Int) : Int):=of_decide_eq_true (by first | (with_reducible assumption) | assumption);first | exact h_ | (have e_:=(Kd.R_reads' HO_0.out).1;omega) | simpa using h_) (seg:=[.int .i64 (wrap64 (x1_1 + 1))]) (j:=1) hcl14 hcc14 (show 2 ≤ 6 from by decide) (x':=(⟨(rd_T127 y374 x5_1).f0,wrap64 (x1_1 + 1),(⟨(rd_T127 y374 x5_1).f2.f0,(rd_T127 y374 x5_1).f2.f1,(rd_T127 y374 x5_1).f2.f2,(rd_T127 y374 x5_1).f2.f3⟩ : S34)⟩ : S127)) (k127_mkM _ _ _ (⟨(rd_T127 y374 x5_1).f0,wrap64 (x1_1 + 1),(⟨(rd_T127 y374 x5_1).f2.f0,(rd_T127 y374 x5_1).f2.f1,(rd_T127 y374 x5_1).f2.f2,(rd_T127 y374 x5_1).f2.f3⟩ : S34)⟩ : S127) ) (fun _ hk=>hk);have hx14_1:=hcc14 1 _ rfl;(try simp only [show (k127).sz = 6 from rfl,Nat.mul_one,Nat.add_zero] at hx14_1);have hf14_1:=hfr14 1;(try simp only [show (k127).sz = 6 from rfl,Nat.mul_one,Nat.add_zero] at hf14_1);clear hcl14 hcc14 hfr14 hM14) | ((with_reducible refine gate_store (t:=3) (p:=23) rfl ?_);refine store_event (t:=3) (p:=23) (v:=?vo_w15) (w1:=(w13.setCell ⟨go5,(x5_1 : Int).toNat * 6 + 1,none⟩ (.int .i64 (wrap64 (x1_1 + 1))))) ?hg ?ho ?hn ?hr ?_;(case ho=>rfl);(case hg=>rfl);(case hn=>rfl);(case hr=>first | (go_simp;done) | (go_simp;rfl));intro w15 hw;have hg : w13.grownBy w15 (some go5):=(by rw [hw];exact HP14.2);have hp_ : Kd.R k127 127 w15 w0.heap.size (fun k_=>(P0_ k_ ∨ w.heap.size ≤ k_)) (.slice (some ⟨go5,0,none⟩) x0_1.length co11) y375:=(by rw [hw,Ny375.out];exact HP14.1);clear HP14;have n0_:=ak (hp_);have n1_:=ak ((by rw [hw];exact below_set (HB.out) GB5.out : Below w0.heap.size w0 w15));have n2_:=ak (Kept.of_grown (S:=(fun k_=>P0_ k_)) hg (by repeat (first | (with_reducible first | exact HK.out | apply Kept.alloc | apply Kept.drewN | apply Kept.drew) | exact HK.out)) (fun k_ e_=>(HO_0.out.1 k_ e_)));clear HO_0 HB HK;have HO_0:=n0_;have HB:=n1_;have HK:=n2_;clear n0_ n1_ n2_ hg hw hp_;have p7 : 0 ≤ (x5_1 : Int):=of_decide_eq_true (by first | (with_reducible assumption) | assumption);have q7 : (x5_1 : Int) < ((x0_1.length : Int) : Int):=of_decide_eq_true (by first | (with_reducible assumption) | assumption);obtain ⟨ce7,hcl7,hM7,hcc7,hfr7⟩:=Kd.R_elem HO_0.out z127 (x5_1 : Int) p7 q7;obtain rfl:=k127_openM hM7;have hx7_0 : w15.cell? ⟨go5,(x5_1 : Int).toNat * 6,none⟩ = some (.int .i64 ((rd_T127 y375 x5_1).f0)):=hcc7 0 _ rfl;have hx7_1 : w15.cell? ⟨go5,(x5_1 : Int).toNat * 6 + 1,none⟩ = some (.int .i64 ((rd_T127 y375 x5_1).f1)):=hcc7 1 _ rfl;have hx7_2 : w15.cell? ⟨go5,(x5_1 : Int).toNat * 6 + 2,none⟩ = some (.int .i64 ((rd_T127 y375 x5_1).f2.f0)):=hcc7 2 _ rfl;have hx7_3 : w15.cell? ⟨go5,(x5_1 : Int).toNat * 6 + 3,none⟩ = some (.int .i64 ((rd_T127 y375 x5_1).f2.f1)):=hcc7 3 _ rfl;have hx7_4 : w15.cell? ⟨go5,(x5_1 : Int).toNat * 6 + 4,none⟩ = some (.int .i64 ((rd_T127 y375 x5_1).f2.f2)):=hcc7 4 _ rfl;have hx7_5 : w15.cell? ⟨go5,(x5_1 : Int).toNat * 6 + 5,none⟩ = some (.int .i64 ((rd_T127 y375 x5_1).f2.f3)):=hcc7 5 _ rfl;have hf7_0 : w15.frozen? ⟨go5,(x5_1 : Int).toNat * 6,none⟩ = false:=hfr7 0;have hf7_1 : w15.frozen? ⟨go5,(x5_1 : Int).toNat * 6 + 1,none⟩ = false:=hfr7 1;have hf7_2 : w15.frozen? ⟨go5,(x5_1 : Int).toNat * 6 + 2,none⟩ = false:=hfr7 2;have hf7_3 : w15.frozen? ⟨go5,(x5_1 : Int).toNat * 6 + 3,none⟩ = false:=hfr7 3;have hf7_4 : w15.frozen? ⟨go5,(x5_1 : Int).toNat * 6 + 4,none⟩ = false:=hfr7 4;have hf7_5 : w15.frozen? ⟨go5,(x5_1 : Int).toNat * 6 + 5,none⟩ = false:=hfr7 5;clear hcl7 hcc7 hfr7 hM7;replace p7:=eq_true p7;replace q7:=eq_true q7;have HX16:=ak (show Kd.R k127 127 w15 w0.heap.size (fun k_=>(P0_ k_ ∨ w.heap.size ≤ k_)) (.slice (some ⟨go5,0,none⟩) x0_1.length co11) y375 from (rr HO_0.out));obtain ⟨ce16,hcl16,hM16,hcc16,hfr16⟩:=Kd.R_elem HX16.out z127 (x5_1 : Int) (of_decide_eq_true (by first | (with_reducible assumption) | assumption)) (by have h_ : (x5_1 : Int) < ((x0_1.length : Int) : Int):=of_decide_eq_true (by first | (with_reducible assumption) | assumption);first | exact h_ | (have e_:=(Kd.R_reads' HO_0.out).1;omega) | simpa using h_);obtain rfl:=k127_openM hM16;have HP16:=Kd.R_seg HX16.out (x5_1 : Int) (of_decide_eq_true (by first | (with_reducible assumption) | assumption)) (by have h_ : (x5_1 : Int) < ((x0_1.length : Int) : Int):=of_decide_eq_true (by first | (with_reducible assumption) | assumption);first | exact h_ | (have e_:=(Kd.R_reads' HO_0.out).1;omega) | simpa using h_) (seg:=[.int .i64 (wrap64 ((wrap64 (x1_1 + 1)) + 1))]) (j:=2) hcl16 hcc16 (show 3 ≤ 6 from by decide) (x':=(⟨(rd_T127 y375 x5_1).f0,(rd_T127 y375 x5_1).f1,(⟨wrap64 ((wrap64 (x1_1 + 1)) + 1),(rd_T127 y375 x5_1).f2.f1,(rd_T127 y375 x5_1).f2.f2,(rd_T127 y375 x5_1).f2.f3⟩ : S34)⟩ : S127)) (k127_mkM _ _ _ (⟨(rd_T127 y375 x5_1).f0,(rd_T127 y375 x5_1).f1,(⟨wrap64 ((wrap64 (x1_1 + 1)) + 1),(rd_T127 y375 x5_1).f2.f1,(rd_T127 y375 x5_1).f2.f2,(rd_T127 y375 x5_1).f2.f3⟩ : S34)⟩ : S127) ) (fun _ hk=>hk);have hx16_2:=hcc16 2 _ rfl;(try simp only [show (k127).sz = 6 from rfl,Nat.mul_one,Nat.add_zero] at hx16_2);have hf16_2:=hfr16 2;(try simp only [show (k127).sz = 6 from rfl,Nat.mul_one,Nat.add_zero] at hf16_2);clear hcl16 hcc16 hfr16 hM16) | ((with_reducible refine gate_store (t:=3) (p:=31) rfl ?_);refine store_event (t:=3) (p:=31) (v:=?vo_w17) (w1:=(w15.setCell ⟨go5,(x5_1 : Int).toNat * 6 + 2,none⟩ (.int .i64 (wrap64 ((wrap64 (x1_1 + 1)) + 1))))) ?hg ?ho ?hn ?hr ?_;(case ho=>rfl);(case hg=>rfl);(case hn=>rfl);(case hr=>first | (go_simp;done) | (go_simp;rfl));intro w17 hw;have hg : w15.grownBy w17 (some go5):=(by rw [hw];exact HP16.2);have hp_ : Kd.R k127 127 w17 w0.heap.size (fun k_=>(P0_ k_ ∨ w.heap.size ≤ k_)) (.slice (some ⟨go5,0,none⟩) x0_1.length co11) y376:=(by rw [hw,Ny376.out];exact HP16.1);clear HP16;have n0_:=ak (hp_);have n1_:=ak ((by rw [hw];exact below_set (HB.out) GB5.out : Below w0.heap.size w0 w17));have n2_:=ak (Kept.of_grown (S:=(fun k_=>P0_ k_)) hg (by repeat (first | (with_reducible first | exact HK.out | apply Kept.alloc | apply Kept.drewN | apply Kept.drew) | exact HK.out)) (fun k_ e_=>(HO_0.out.1 k_ e_)));clear HO_0 HB HK;have HO_0:=n0_;have HB:=n1_;have HK:=n2_;clear n0_ n1_ n2_ hg hw hp_;have p8 : 0 ≤ (x5_1 : Int):=of_decide_eq_true (by first | (with_reducible assumption) | assumption);have q8 : (x5_1 : Int) < ((x0_1.length : Int) : Int):=of_decide_eq_true (by first | (with_reducible assumption) | assumption);obtain ⟨ce8,hcl8,hM8,hcc8,hfr8⟩:=Kd.R_elem HO_0.out z127 (x5_1 : Int) p8 q8;obtain rfl:=k127_openM hM8;have hx8_0 : w17.cell? ⟨go5,(x5_1 : Int).toNat * 6,none⟩ = some (.int .i64 ((rd_T127 y376 x5_1).f0)):=hcc8 0 _ rfl;have hx8_1 : w17.cell? ⟨go5,(x5_1 : Int).toNat * 6 + 1,none⟩ = some (.int .i64 ((rd_T127 y376 x5_1).f1)):=hcc8 1 _ rfl;have hx8_2 : w17.cell? ⟨go5,(x5_1 : Int).toNat * 6 + 2,none⟩ = some (.int .i64 ((rd_T127 y376 x5_1).f2.f0)):=hcc8 2 _ rfl;have hx8_3 : w17.cell? ⟨go5,(x5_1 : Int).toNat * 6 + 3,none⟩ = some (.int .i64 ((rd_T127 y376 x5_1).f2.f1)):=hcc8 3 _ rfl;have hx8_4 : w17.cell? ⟨go5,(x5_1 : Int).toNat * 6 + 4,none⟩ = some (.int .i64 ((rd_T127 y376 x5_1).f2.f2)):=hcc8 4 _ rfl;have hx8_5 : w17.cell? ⟨go5,(x5_1 : Int).toNat * 6 + 5,none⟩ = some (.int .i64 ((rd_T127 y376 x5_1).f2.f3)):=hcc8 5 _ rfl;have hf8_0 : w17.frozen? ⟨go5,(x5_1 : Int).toNat * 6,none⟩ = false:=hfr8 0;have hf8_1 : w17.frozen? ⟨go5,(x5_1 : Int).toNat * 6 + 1,none⟩ = false:=hfr8 1;have hf8_2 : w17.frozen? ⟨go5,(x5_1 : Int).toNat * 6 + 2,none⟩ = false:=hfr8 2;have hf8_3 : w17.frozen? ⟨go5,(x5_1 : Int).toNat * 6 + 3,none⟩ = false:=hfr8 3;have hf8_4 : w17.frozen? ⟨go5,(x5_1 : Int).toNat * 6 + 4,none⟩ = false:=hfr8 4;have hf8_5 : w17.frozen? ⟨go5,(x5_1 : Int).toNat * 6 + 5,none⟩ = false:=hfr8 5;clear hcl8 hcc8 hfr8 hM8;replace p8:=eq_true p8;replace q8:=eq_true q8;have HX18:=ak (show Kd.R k127 127 w17 w0.heap.size (fun k_=>(P0_ k_ ∨ w.heap.size ≤ k_)) (.slice (some ⟨go5,0,none⟩) x0_1.length co11) y376 from (rr HO_0.out));obtain ⟨ce18,hcl18,hM18,hcc18,hfr18⟩:=Kd.R_elem HX18.out z127 (x5_1 : Int) (of_decide_eq_true (by first | (with_reducible assumption) | assumption)) (by have h_ : (x5_1 : Int) < ((x0_1.length : Int) : Int):=of_decide_eq_true (by first | (with_reducible assumption) | assumption);first | exact h_ | (have e_:=(Kd.R_reads' HO_0.out).1;omega) | simpa using h_);obtain rfl:=k127_openM hM18;have HP18:=Kd.R_seg HX18.out (x5_1 : Int) (of_decide_eq_true (by first | (with_reducible assumption) | assumption)) (by have h_ : (x5_1 : Int) < ((x0_1.length : Int) : Int):=of_decide_eq_true (by first | (with_reducible assumption) | assumption);first | exact h_ | (have e_:=(Kd.R_reads' HO_0.out).1;omega) | simpa using h_) (seg:=[.int .i64 (wrap64 ((wrap64 ((wrap64 (x1_1 + 1)) + 1)) + 1))]) (j:=3) hcl18 hcc18 (show 4 ≤ 6 from by decide) (x':=(⟨(rd_T127 y376 x5_1).f0,(rd_T127 y376 x5_1).f1,(⟨(rd_T127 y376 x5_1).f2.f0,wrap64 ((wrap64 ((wrap64 (x1_1 + 1)) + 1)) + 1),(rd_T127 y376 x5_1).f2.f2,(rd_T127 y376 x5_1).f2.f3⟩ : S34)⟩ : S127)) (k127_mkM _ _ _ (⟨(rd_T127 y376 x5_1).f0,(rd_T127 y376 x5_1).f1,(⟨(rd_T127 y376 x5_1).f2.f0,wrap64 ((wrap64 ((wrap64 (x1_1 + 1)) + 1)) + 1),(rd_T127 y376 x5_1).f2.f2,(rd_T127 y376 x5_1).f2.f3⟩ : S34)⟩ : S127) ) (fun _ hk=>hk);have hx18_3:=hcc18 3 _ rfl;(try simp only [show (k127).sz = 6 from rfl,Nat.mul_one,Nat.add_zero] at hx18_3);have hf18_3:=hfr18 3;(try simp only [show (k127).sz = 6 from rfl,Nat.mul_one,Nat.add_zero] at hf18_3);clear hcl18 hcc18 hfr18 hM18) | ((with_reducible refine gate_store (t:=3) (p:=39) rfl ?_);refine store_event (t:=3) (p:=39) (v:=?vo_w19) (w1:=(w17.setCell ⟨go5,(x5_1 : Int).toNat * 6 + 3,none⟩ (.int .i64 (wrap64 ((wrap64 ((wrap64 (x1_1 + 1)) + 1)) + 1))))) ?hg ?ho ?hn ?hr ?_;(case ho=>rfl);(case hg=>rfl);(case hn=>rfl);(case hr=>first | (go_simp;done) | (go_simp;rfl));intro w19 hw;have hg : w17.grownBy w19 (some go5):=(by rw [hw];exact HP18.2);have hp_ : Kd.R k127 127 w19 w0.heap.size (fun k_=>(P0_ k_ ∨ w.heap.size ≤ k_)) (.slice (some ⟨go5,0,none⟩) x0_1.length co11) y377:=(by rw [hw,Ny377.out];exact HP18.1);clear HP18;have n0_:=ak (hp_);have n1_:=ak ((by rw [hw];exact below_set (HB.out) GB5.out : Below w0.heap.size w0 w19));have n2_:=ak (Kept.of_grown (S:=(fun k_=>P0_ k_)) hg (by repeat (first | (with_reducible first | exact HK.out | apply Kept.alloc | apply Kept.drewN | apply Kept.drew) | exact HK.out)) (fun k_ e_=>(HO_0.out.1 k_ e_)));clear HO_0 HB HK;have HO_0:=n0_;have HB:=n1_;have HK:=n2_;clear n0_ n1_ n2_ hg hw hp_;have p9 : 0 ≤ (x5_1 : Int):=of_decide_eq_true (by first | (with_reducible assumption) | assumption);have q9 : (x5_1 : Int) < ((x0_1.length : Int) : Int):=of_decide_eq_true (by first | (with_reducible assumption) | assumption);obtain ⟨ce9,hcl9,hM9,hcc9,hfr9⟩:=Kd.R_elem HO_0.out z127 (x5_1 : Int) p9 q9;obtain rfl:=k127_openM hM9;have hx9_0 : w19.cell? ⟨go5,(x5_1 : Int).toNat * 6,none⟩ = some (.int .i64 ((rd_T127 y377 x5_1).f0)):=hcc9 0 _ rfl;have hx9_1 : w19.cell? ⟨go5,(x5_1 : Int).toNat * 6 + 1,none⟩ = some (.int .i64 ((rd_T127 y377 x5_1).f1)):=hcc9 1 _ rfl;have hx9_2 : w19.cell? ⟨go5,(x5_1 : Int).toNat * 6 + 2,none⟩ = some (.int .i64 ((rd_T127 y377 x5_1).f2.f0)):=hcc9 2 _ rfl;have hx9_3 : w19.cell? ⟨go5,(x5_1 : Int).toNat * 6 + 3,none⟩ = some (.int .i64 ((rd_T127 y377 x5_1).f2.f1)):=hcc9 3 _ rfl;have hx9_4 : w19.cell? ⟨go5,(x5_1 : Int).toNat * 6 + 4,none⟩ = some (.int .i64 ((rd_T127 y377 x5_1).f2.f2)):=hcc9 4 _ rfl;have hx9_5 : w19.cell? ⟨go5,(x5_1 : Int).toNat * 6 + 5,none⟩ = some (.int .i64 ((rd_T127 y377 x5_1).f2.f3)):=hcc9 5 _ rfl;have hf9_0 : w19.frozen? ⟨go5,(x5_1 : Int).toNat * 6,none⟩ = false:=hfr9 0;have hf9_1 : w19.frozen? ⟨go5,(x5_1 : Int).toNat * 6 + 1,none⟩ = false:=hfr9 1;have hf9_2 : w19.frozen? ⟨go5,(x5_1 : Int).toNat * 6 + 2,none⟩ = false:=hfr9 2;have hf9_3 : w19.frozen? ⟨go5,(x5_1 : Int).toNat * 6 + 3,none⟩ = false:=hfr9 3;have hf9_4 : w19.frozen? ⟨go5,(x5_1 : Int).toNat * 6 + 4,none⟩ = false:=hfr9 4;have hf9_5 : w19.frozen? ⟨go5,(x5_1 : Int).toNat * 6 + 5,none⟩ = false:=hfr9 5;clear hcl9 hcc9 hfr9 hM9;replace p9:=eq_true p9;replace q9:=eq_true q9;have HX20:=ak (show Kd.R k127 127 w19 w0.heap.size (fun k_=>(P0_ k_ ∨ w.heap.size ≤ k_)) (.slice (some ⟨go5,0,none⟩) x0_1.length co11) y377 from (rr HO_0.out));obtain ⟨ce20,hcl20,hM20,hcc20,hfr20⟩:=Kd.R_elem HX20.out z127 (x5_1 : Int) (of_decide_eq_true (by first | (with_reducible assumption) | assumption)) (by have h_ : (x5_1 : Int) < ((x0_1.length : Int) : Int):=of_decide_eq_true (by first | (with_reducible assumption) | assumption);first | exact h_ | (have e_:=(Kd.R_reads' HO_0.out).1;omega) | simpa using h_);obtain rfl:=k127_openM hM20;have HP20:=Kd.R_seg HX20.out (x5_1 : Int) (of_decide_eq_true (by first | (with_reducible assumption) | assumption)) (by have h_ : (x5_1 : Int) < ((x0_1.length : Int) : Int):=of_decide_eq_true (by first | (with_reducible assumption) | assumption);first | exact h_ | (have e_:=(Kd.R_reads' HO_0.out).1;omega) | simpa using h_) (seg:=[.int .i64 (wrap64 ((wrap64 ((wrap64 ((wrap64 (x1_1 + 1)) + 1)) + 1)) + 1))]) (j:=4) hcl20 hcc20 (show 5 ≤ 6 from by decide) (x':=(⟨(rd_T127 y377 x5_1).f0,(rd_T127 y377 x5_1).f1,(⟨(rd_T127 y377 x5_1).f2.f0,(rd_T127 y377 x5_1).f2.f1,wrap64 ((wrap64 ((wrap64 ((wrap64 (x1_1 + 1)) + 1)) + 1)) + 1),(rd_T127 y377 x5_1).f2.f3⟩ : S34)⟩ : S127)) (k127_mkM _ _ _ (⟨(rd_T127 y377 x5_1).f0,(rd_T127 y377 x5_1).f1,(⟨(rd_T127 y377 x5_1).f2.f0,(rd_T127 y377 x5_1).f2.f1,wrap64 ((wrap64 ((wrap64 ((wrap64 (x1_1 + 1)) + 1)) + 1)) + 1),(rd_T127 y377 x5_1).f2.f3⟩ : S34)⟩ : S127) ) (fun _ hk=>hk);have hx20_4:=hcc20 4 _ rfl;(try simp only [show (k127).sz = 6 from rfl,Nat.mul_one,Nat.add_zero] at hx20_4);have hf20_4:=hfr20 4;(try simp only [show (k127).sz = 6 from rfl,Nat.mul_one,Nat.add_zero] at hf20_4);clear hcl20 hcc20 hfr20 hM20) | ((with_reducible refine gate_store (t:=3) (p:=47) rfl ?_);refine store_event (t:=3) (p:=47) (v:=?vo_w21) (w1:=(w19.setCell ⟨go5,(x5_1 : Int).toNat * 6 + 4,none⟩ (.int .i64 (wrap64 ((wrap64 ((wrap64 ((wrap64 (x1_1 + 1)) + 1)) + 1)) + 1))))) ?hg ?ho ?hn ?hr ?_;(case ho=>rfl);(case hg=>rfl);(case hn=>rfl);(case hr=>first | (go_simp;done) | (go_simp;rfl));intro w21 hw;have hg : w19.grownBy w21 (some go5):=(by rw [hw];exact HP20.2);have hp_ : Kd.R k127 127 w21 w0.heap.size (fun k_=>(P0_ k_ ∨ w.heap.size ≤ k_)) (.slice (some ⟨go5,0,none⟩) x0_1.length co11) y378:=(by rw [hw,Ny378.out];exact HP20.1);clear HP20;have n0_:=ak (hp_);have n1_:=ak ((by rw [hw];exact below_set (HB.out) GB5.out : Below w0.heap.size w0 w21));have n2_:=ak (Kept.of_grown (S:=(fun k_=>P0_ k_)) hg (by repeat (first | (with_reducible first | exact HK.out | apply Kept.alloc | apply Kept.drewN | apply Kept.drew) | exact HK.out)) (fun k_ e_=>(HO_0.out.1 k_ e_)));clear HO_0 HB HK;have HO_0:=n0_;have HB:=n1_;have HK:=n2_;clear n0_ n1_ n2_ hg hw hp_;have p10 : 0 ≤ (x5_1 : Int):=of_decide_eq_true (by first | (with_reducible assumption) | assumption);have q10 : (x5_1 : Int) < ((x0_1.length : Int) : Int):=of_decide_eq_true (by first | (with_reducible assumption) | assumption);obtain ⟨ce10,hcl10,hM10,hcc10,hfr10⟩:=Kd.R_elem HO_0.out z127 (x5_1 : Int) p10 q10;obtain rfl:=k127_openM hM10;have hx10_0 : w21.cell? ⟨go5,(x5_1 : Int).toNat * 6,none⟩ = some (.int .i64 ((rd_T127 y378 x5_1).f0)):=hcc10 0 _ rfl;have hx10_1 : w21.cell? ⟨go5,(x5_1 : Int).toNat * 6 + 1,none⟩ = some (.int .i64 ((rd_T127 y378 x5_1).f1)):=hcc10 1 _ rfl;have hx10_2 : w21.cell? ⟨go5,(x5_1 : Int).toNat * 6 + 2,none⟩ = some (.int .i64 ((rd_T127 y378 x5_1).f2.f0)):=hcc10 2 _ rfl;have hx10_3 : w21.cell? ⟨go5,(x5_1 : Int).toNat * 6 + 3,none⟩ = some (.int .i64 ((rd_T127 y378 x5_1).f2.f1)):=hcc10 3 _ rfl;have hx10_4 : w21.cell? ⟨go5,(x5_1 : Int).toNat * 6 + 4,none⟩ = some (.int .i64 ((rd_T127 y378 x5_1).f2.f2)):=hcc10 4 _ rfl;have hx10_5 : w21.cell? ⟨go5,(x5_1 : Int).toNat * 6 + 5,none⟩ = some (.int .i64 ((rd_T127 y378 x5_1).f2.f3)):=hcc10 5 _ rfl;have hf10_0 : w21.frozen? ⟨go5,(x5_1 : Int).toNat * 6,none⟩ = false:=hfr10 0;have hf10_1 : w21.frozen? ⟨go5,(x5_1 : Int).toNat * 6 + 1,none⟩ = false:=hfr10 1;have hf10_2 : w21.frozen? ⟨go5,(x5_1 : Int).toNat * 6 + 2,none⟩ = false:=hfr10 2;have hf10_3 : w21.frozen? ⟨go5,(x5_1 : Int).toNat * 6 + 3,none⟩ = false:=hfr10 3;have hf10_4 : w21.frozen? ⟨go5,(x5_1 : Int).toNat * 6 + 4,none⟩ = false:=hfr10 4;have hf10_5 : w21.frozen? ⟨go5,(x5_1 : Int).toNat * 6 + 5,none⟩ = false:=hfr10 5;clear hcl10 hcc10 hfr10 hM10;replace p10:=eq_true p10;replace q10:=eq_true q10;have HX22:=ak (show Kd.R k127 127 w21 w0.heap.size (fun k_=>(P0_ k_ ∨ w.heap.size ≤ k_)) (.slice (some ⟨go5,0,none⟩) x0_1.length co11) y378 from (rr HO_0.out));obtain ⟨ce22,hcl22,hM22,hcc22,hfr22⟩:=Kd.R_elem HX22.out z127 (x5_1 : Int) (of_decide_eq_true (by first | (with_reducible assumption) | assumption)) (by have h_ : (x5_1 : Int) < ((x0_1.length : Int) : Int):=of_decide_eq_true (by first | (with_reducible assumption) | assumption);first | exact h_ | (have e_:=(Kd.R_reads' HO_0.out).1;omega) | simpa using h_);obtain rfl:=k127_openM hM22;have HP22:=Kd.R_seg HX22.out (x5_1 : Int) (of_decide_eq_true (by first | (with_reducible assumption) | assumption)) (by have h_ : (x5_1 : Int) < ((x0_1.length : Int) : Int):=of_decide_eq_true (by first | (with_reducible assumption) | assumption);first | exact h_ | (have e_:=(Kd.R_reads' HO_0.out).1;omega) | simpa using h_) (seg:=[.int .i64 (wrap64 ((wrap64 ((wrap64 ((wrap64 ((wrap64 (x1_1 + 1)) + 1)) + 1)) + 1)) + 1))]) (j:=5) hcl22 hcc22 (show 6 ≤ 6 from by decide) (x':=(⟨(rd_T127 y378 x5_1).f0,(rd_T127 y378 x5_1).f1,(⟨(rd_T127 y378 x5_1).f2.f0,(rd_T127 y378 x5_1).f2.f1,(rd_T127 y378 x5_1).f2.f2,wrap64 ((wrap64 ((wrap64 ((wrap64 ((wrap64 (x1_1 + 1)) + 1)) + 1)) + 1)) + 1)⟩ : S34)⟩ : S127)) (k127_mkM _ _ _ (⟨(rd_T127 y378 x5_1).f0,(rd_T127 y378 x5_1).f1,(⟨(rd_T127 y378 x5_1).f2.f0,(rd_T127 y378 x5_1).f2.f1,(rd_T127 y378 x5_1).f2.f2,wrap64 ((wrap64 ((wrap64 ((wrap64 ((wrap64 (x1_1 + 1)) + 1)) + 1)) + 1)) + 1)⟩ : S34)⟩ : S127) ) (fun _ hk=>hk);have hx22_5:=hcc22 5 _ rfl;(try simp only [show (k127).sz = 6 from rfl,Nat.mul_one,Nat.add_zero] at hx22_5);have hf22_5:=hfr22 5;(try simp only [show (k127).sz = 6 from rfl,Nat.mul_one,Nat.add_zero] at hf22_5);clear hcl22 hcc22 hfr22 hM22) | ((with_reducible refine gate_store (t:=3) (p:=55) rfl ?_);refine store_event (t:=3) (p:=55) (v:=?vo_w23) (w1:=(w21.setCell ⟨go5,(x5_1 : Int).toNat * 6 + 5,none⟩ (.int .i64 (wrap64 ((wrap64 ((wrap64 ((wrap64 ((wrap64 (x1_1 + 1)) + 1)) + 1)) + 1)) + 1))))) ?hg ?ho ?hn ?hr ?_;(case ho=>rfl);(case hg=>rfl);(case hn=>rfl);(case hr=>first | (go_simp;done) | (go_simp;rfl));intro w23 hw;have hg : w21.grownBy w23 (some go5):=(by rw [hw];exact HP22.2);have hp_ : Kd.R k127 127 w23 w0.heap.size (fun k_=>(P0_ k_ ∨ w.heap.size ≤ k_)) (.slice (some ⟨go5,0,none⟩) x0_1.length co11) y379:=(by rw [hw,Ny379.out];exact HP22.1);clear HP22;have n0_:=ak (hp_);have n1_:=ak ((by rw [hw];exact below_set (HB.out) GB5.out : Below w0.heap.size w0 w23));have n2_:=ak (Kept.of_grown (S:=(fun k_=>P0_ k_)) hg (by repeat (first | (with_reducible first | exact HK.out | apply Kept.alloc | apply Kept.drewN | apply Kept.drew) | exact HK.out)) (fun k_ e_=>(HO_0.out.1 k_ e_)));clear HO_0 HB HK;have HO_0:=n0_;have HB:=n1_;have HK:=n2_;clear n0_ n1_ n2_ hg hw hp_))
   go_roundg k1
   case measure=>have:=HK1.out;omega
   case rel=>exact ⟨(y379),(wrap64 ((wrap64 ((wrap64 ((wrap64 ((wrap64 ((wrap64 (x1_1 + 1)) + 1)) + 1)) + 1)) + 1)) + 1)),(wrap64 (x5_1 + 1)),(by first | rfl | (simp;done) | (simp [*];done)),(by first | rfl | (simp;done) | (simp [*];done)),H',⟨by have:=HK1.out;omega⟩,⟨rr HO_0.out⟩,⟨by repeat (first | (with_reducible first | exact HK.out | apply Kept.alloc | apply Kept.drewN | apply Kept.drew) | exact HK.out)⟩,⟨rbx HB⟩⟩

/-! ### laws_markKeeper: function 84 -/
def laws_markKeeper.f (k : Nat) (l0_0 : List (S134)) (l0_1 : List Int) (l0_2 : List (S127)) (a0_3 : Int) (l0_4 : List Int) (a1 : Int) : Option (Int × (List (S134)) × List Int × (List (S127)) × List Int):=(laws_markEntryS.f k l0_0 a1).bind fun bt381=>((laws_markIntS.f k l0_1 bt381.1).bind fun bt383=>((laws_markEarlyS.f k l0_2 bt383.1).bind fun bt385=>((laws_markIntS.f k l0_4 bt385.1).bind fun bt387=>(some (bt387.1,bt381.2,bt383.2,bt385.2,bt387.2)))))
theorem laws_markKeeper.mono : ∀ a0 a1 a2 a3 a4 a5 k,LeO (laws_markKeeper.f k a0 a1 a2 a3 a4 a5) (laws_markKeeper.f (k + 1) a0 a1 a2 a3 a4 a5):=by
 intro a0 a1 a2 a3 a4 a5 k
 unfold laws_markKeeper.f
 repeat' first
   | (with_reducible apply laws_markEarlyS.mono)
   | (with_reducible apply laws_markEntryS.mono)
   | (with_reducible apply laws_markIntS.mono)
   | (with_reducible exact LeO.refl _)
   | (with_reducible exact LeO.none _)
   | (with_reducible refine LeO.ite ?_ ?_)
   | (with_reducible refine LeO.bind ?_ (fun _=>?_))
   | apply laws_markEarlyS.mono
   | apply laws_markEntryS.mono
   | apply laws_markIntS.mono
   | exact LeO.none _
   | refine LeO.ite ?_ ?_
   | refine LeO.bind ?_ (fun _=>?_)
set_option maxHeartbeats 8000000 in
theorem laws_markKeeper.calls (k : Nat) (P0_0_ : Nat→Prop) (u9000_ : Value) (l0_0 : List (S134)) (P0_1_ : Nat→Prop) (u9001_ : Value) (l0_1 : List Int) (P0_2_ : Nat→Prop) (u9002_ : Value) (l0_2 : List (S127)) (a0_3 : Int) (P0_4_ : Nat→Prop) (u9003_ : Value) (l0_4 : List Int) (a1 : Int) (r1 : Int) (r2 : List (S134)) (r3 : List Int) (r4 : List (S127)) (r5 : List Int) (w0 w : World) (hB : Below w0.heap.size w0 w) (ho0_0 : Kd.R k134 134 w w0.heap.size P0_0_ u9000_ l0_0) (ho0_1 : Kd.R (Kd.int .i64) 3 w w0.heap.size P0_1_ u9001_ l0_1) (hp0_1_0_4 : ∀ k_,P0_1_ k_→¬ P0_4_ k_) (ho0_2 : Kd.R k127 127 w w0.heap.size P0_2_ u9002_ l0_2) (ho0_4 : Kd.R (Kd.int .i64) 3 w w0.heap.size P0_4_ u9003_ l0_4) (hp0_4_0_1 : ∀ k_,P0_4_ k_→¬ P0_1_ k_) (h : laws_markKeeper.f k l0_0 l0_1 l0_2 a0_3 l0_4 a1 = some (r1,r2,r3,r4,r5)) :
  Calls Try.prog 84 #[.agg #[u9000_,u9001_,u9002_,.int .i64 a0_3,u9003_],.int .i64 a1] w fun e w'=>e = .returned (.int .i64 r1)∧Kd.R k134 134 w' w0.heap.size (fun k_=>((P0_0_ k_ ∨ P0_1_ k_ ∨ P0_2_ k_ ∨ P0_4_ k_) ∨ w.heap.size ≤ k_)) u9000_ r2∧Kd.R (Kd.int .i64) 3 w' w0.heap.size (fun k_=>((P0_0_ k_ ∨ P0_1_ k_ ∨ P0_2_ k_ ∨ P0_4_ k_) ∨ w.heap.size ≤ k_)) u9001_ r3∧Kd.R k127 127 w' w0.heap.size (fun k_=>((P0_0_ k_ ∨ P0_1_ k_ ∨ P0_2_ k_ ∨ P0_4_ k_) ∨ w.heap.size ≤ k_)) u9002_ r4∧Kd.R (Kd.int .i64) 3 w' w0.heap.size (fun k_=>((P0_0_ k_ ∨ P0_1_ k_ ∨ P0_2_ k_ ∨ P0_4_ k_) ∨ w.heap.size ≤ k_)) u9003_ r5∧Below w0.heap.size w0 w'∧Kept w w' (fun k_=>P0_0_ k_ ∨ P0_1_ k_ ∨ P0_2_ k_ ∨ P0_4_ k_):=by
 have hu51:=Try.underlying51
 have HO0_0:=ak (show Kd.R k134 134 w w0.heap.size (fun k_=>((P0_0_ k_ ∨ P0_1_ k_ ∨ P0_2_ k_ ∨ P0_4_ k_) ∨ w.heap.size ≤ k_)) u9000_ l0_0 from Kd.R_mono ho0_0 (fun k_ hk=>(.inl (.inl hk))))
 have HO0_1:=ak (show Kd.R (Kd.int .i64) 3 w w0.heap.size (fun k_=>((P0_0_ k_ ∨ P0_1_ k_ ∨ P0_2_ k_ ∨ P0_4_ k_) ∨ w.heap.size ≤ k_)∧some k_ ≠ (u9003_ : Value).ownBlock) u9001_ l0_1 from Kd.R_mono ho0_1 (fun k_ hk=>⟨(.inl (.inr (.inl hk))),fun e_=>hp0_1_0_4 k_ hk (ho0_4.1 k_ e_.symm)⟩))
 have HO0_2:=ak (show Kd.R k127 127 w w0.heap.size (fun k_=>((P0_0_ k_ ∨ P0_1_ k_ ∨ P0_2_ k_ ∨ P0_4_ k_) ∨ w.heap.size ≤ k_)) u9002_ l0_2 from Kd.R_mono ho0_2 (fun k_ hk=>(.inl (.inr (.inr (.inl hk))))))
 have HO0_4:=ak (show Kd.R (Kd.int .i64) 3 w w0.heap.size (fun k_=>((P0_0_ k_ ∨ P0_1_ k_ ∨ P0_2_ k_ ∨ P0_4_ k_) ∨ w.heap.size ≤ k_)∧some k_ ≠ (u9001_ : Value).ownBlock) u9003_ l0_4 from Kd.R_mono ho0_4 (fun k_ hk=>⟨(.inl (.inr (.inr (.inr hk)))),fun e_=>hp0_4_0_1 k_ hk (ho0_1.1 k_ e_.symm)⟩))
 have HK:=ak (Kept.refl w (fun k_=>P0_0_ k_ ∨ P0_1_ k_ ∨ P0_2_ k_ ∨ P0_4_ k_))
 have HW0:=ak hB.size
 have HB:=ak hB
 clear hB
 have H:=h
 clear h
 unfold laws_markKeeper.f at H
 replace H:=Option.bind_eq_some_iff.mp H
 obtain ⟨⟨t381,t382⟩,A30,H⟩:=H
 try dsimp only at H
 have A3:=ak A30
 clear A30
 replace H:=Option.bind_eq_some_iff.mp H
 obtain ⟨⟨t383,t384⟩,A40,H⟩:=H
 try dsimp only at H
 have A4:=ak A40
 clear A40
 replace H:=Option.bind_eq_some_iff.mp H
 obtain ⟨⟨t385,t386⟩,A50,H⟩:=H
 try dsimp only at H
 have A5:=ak A50
 clear A50
 replace H:=Option.bind_eq_some_iff.mp H
 obtain ⟨⟨t387,t388⟩,A60,H⟩:=H
 try dsimp only at H
 have A6:=ak A60
 clear A60
 simp only [Option.some.injEq,Prod.mk.injEq] at H
 obtain ⟨rfl,rfl,rfl,rfl,rfl⟩:=H
 obtain ⟨Ao7,co7,eo7⟩:=Kd.R_slice HO0_0.out
 subst eo7
 obtain ⟨Ao8,co8,eo8⟩:=Kd.R_slice HO0_1.out
 subst eo8
 obtain ⟨Ao9,co9,eo9⟩:=Kd.R_slice HO0_2.out
 subst eo9
 obtain ⟨Ao10,co10,eo10⟩:=Kd.R_slice HO0_4.out
 subst eo10
 go_enter Try.func84,Try.ntmps84
 go_wp2_with (first | ((with_reducible refine gate_dst (N:=2) rfl ?_);refine box_event ?hg (N:=2) ?hd (cs:=#[.slice Ao7 l0_0.length co7,.slice Ao8 l0_1.length co8,.slice Ao9 l0_2.length co9,.int .i64 a0_3,.slice Ao10 l0_4.length co10]) (t:=51) ?hr ?_;(case hd=>rfl);(case hg=>rfl);(case hr=>first | (go_simp;done) | (go_simp;rfl));intro gb380 hg w11 hbox hb;have n0_:=ka HO0_0 hb;have n1_:=ka HO0_1 hb;have n2_:=ka HO0_2 hb;have n3_:=ka HO0_4 hb;have n4_:=ak (Kept.below (S:=(fun k_=>P0_0_ k_ ∨ P0_1_ k_ ∨ P0_2_ k_ ∨ P0_4_ k_)) (by repeat (first | (with_reducible first | exact HK.out | apply Kept.alloc | apply Kept.drewN | apply Kept.drew) | exact HK.out)) hb);have n5_:=kh HB hb;have n6_:=ak (hbox);have n7_:=ak ((by rw [hg];exact (by first | exact HK.out.1 | exact (show Kept w _ (fun k_=>P0_0_ k_ ∨ P0_1_ k_ ∨ P0_2_ k_ ∨ P0_4_ k_) from by repeat (first | (with_reducible first | exact HK.out | apply Kept.alloc | apply Kept.drewN | apply Kept.drew) | exact HK.out)).1) : w.heap.size ≤ gb380));have n8_:=kz HB hg;clear HO0_0 HO0_1 HO0_2 HO0_4 HK HB;have HO0_0:=n0_;have HO0_1:=n1_;have HO0_2:=n2_;have HO0_4:=n3_;have HK:=n4_;have HB:=n5_;have BK380:=n6_;have GW380:=n7_;have GE380:=n8_;clear n0_ n1_ n2_ n3_ n4_ n5_ n6_ n7_ n8_ hb hbox hg;have hcz12_0 : w11.cell? ⟨gb380,0,none⟩ = some (.slice Ao7 l0_0.length co7):=(blk_cell BK380.out 0).trans rfl;have hcz12_1 : w11.cell? ⟨gb380,1,none⟩ = some (.slice Ao8 l0_1.length co8):=(blk_cell BK380.out 1).trans rfl;have hcz12_2 : w11.cell? ⟨gb380,2,none⟩ = some (.slice Ao9 l0_2.length co9):=(blk_cell BK380.out 2).trans rfl;have hcz12_3 : w11.cell? ⟨gb380,3,none⟩ = some (.int .i64 a0_3):=(blk_cell BK380.out 3).trans rfl;have hcz12_4 : w11.cell? ⟨gb380,4,none⟩ = some (.slice Ao10 l0_4.length co10):=(blk_cell BK380.out 4).trans rfl;have hfz12_0:=blk_frozen BK380.out 0;have hfz12_1:=blk_frozen BK380.out 1;have hfz12_2:=blk_frozen BK380.out 2;have hfz12_3:=blk_frozen BK380.out 3;have hfz12_4:=blk_frozen BK380.out 4) | ((with_reducible refine gc (f:=49) rfl ?_);refine gl (some 8) Try.func49 #[.slice Ao7 l0_0.length co7,.int .i64 a1] ?_;(with_reducible refine (laws_markEntryS.calls k (fun k_=>some k_ = (.slice Ao7 l0_0.length co7 : Value).ownBlock) (.slice Ao7 l0_0.length co7) l0_0 a1 t381 t382 w0 _ ?side1 ?side2 A3.out).mono ?_);(case side1=>repeat (first | (with_reducible first | exact HB.out | apply below_alloc | apply pw_below_drewN | apply below_drew1 | refine below_set ?_ GE380.out) | exact HB.out));(case side2=>exact Kd.R_tight rfl HO0_0.out);rintro e w13 ⟨rfl,hy0,hb,hkp⟩;refine ⟨_,rfl,?_⟩;have n_ : _∧_∧_∧_∧_∧_∧_:=⟨ak (Kd.R_reok rfl hy0 (fun k_ e_=>HO0_0.out.1 k_ e_)),ak (Kd.R_mono (ok':=fun k_=>((P0_0_ k_ ∨ P0_1_ k_ ∨ P0_2_ k_ ∨ P0_4_ k_) ∨ w.heap.size ≤ k_)∧some k_ ≠ (.slice Ao10 l0_4.length co10 : Value).ownBlock) (Kd.R_keptB ((Kd.R_apart' HO0_1.out (Kd.R_typed HO0_0.out) (by decide))) hkp (fun k_ hk_ hs_=>(hk_.2) hs_)) (fun k_ hk_=>⟨hk_.1.1.1,hk_.1.1.2⟩)),ak (Kd.R_mono (ok':=fun k_=>((P0_0_ k_ ∨ P0_1_ k_ ∨ P0_2_ k_ ∨ P0_4_ k_) ∨ w.heap.size ≤ k_)) (Kd.R_keptB ((Kd.R_apart' HO0_2.out (Kd.R_typed HO0_0.out) (by decide))) hkp (fun k_ hk_ hs_=>(hk_.2) hs_)) (fun k_ hk_=>hk_.1.1)),ak (Kd.R_mono (ok':=fun k_=>((P0_0_ k_ ∨ P0_1_ k_ ∨ P0_2_ k_ ∨ P0_4_ k_) ∨ w.heap.size ≤ k_)∧some k_ ≠ (.slice Ao8 l0_1.length co8 : Value).ownBlock) (Kd.R_keptB ((Kd.R_apart' HO0_4.out (Kd.R_typed HO0_0.out) (by decide))) hkp (fun k_ hk_ hs_=>(hk_.2) hs_)) (fun k_ hk_=>⟨hk_.1.1.1,hk_.1.1.2⟩)),ak (blk_kept (rk BK380.out) hkp (fun hs_=>(fun e_=>(Kd.R_ne HO0_0.out BK380.out (by decide)) e_) hs_)),ak (Kept.then_ (S:=(fun k_=>P0_0_ k_ ∨ P0_1_ k_ ∨ P0_2_ k_ ∨ P0_4_ k_)) (by repeat (first | (with_reducible first | exact HK.out | apply Kept.alloc | apply Kept.drewN | apply Kept.drew | refine Kept.setCell ?_ (.inr GW380.out) _) | exact HK.out)) hkp (fun k_ hs_=>(fun e_=>(HO0_0.out.1 k_ e_.symm)) hs_)),ak (hb)⟩;clear HO0_0 HO0_1 HO0_2 HO0_4 BK380 HK HB;obtain ⟨HO0_0,HO0_1,HO0_2,HO0_4,BK380,HK,HB⟩:=n_;(try clear hb);(try clear hkp);(try clear hy0);have hcz14_0 : w13.cell? ⟨gb380,0,none⟩ = some (.slice Ao7 l0_0.length co7):=(blk_cell BK380.out 0).trans rfl;have hcz14_1 : w13.cell? ⟨gb380,1,none⟩ = some (.slice Ao8 l0_1.length co8):=(blk_cell BK380.out 1).trans rfl;have hcz14_2 : w13.cell? ⟨gb380,2,none⟩ = some (.slice Ao9 l0_2.length co9):=(blk_cell BK380.out 2).trans rfl;have hcz14_3 : w13.cell? ⟨gb380,3,none⟩ = some (.int .i64 a0_3):=(blk_cell BK380.out 3).trans rfl;have hcz14_4 : w13.cell? ⟨gb380,4,none⟩ = some (.slice Ao10 l0_4.length co10):=(blk_cell BK380.out 4).trans rfl;have hfz14_0:=blk_frozen BK380.out 0;have hfz14_1:=blk_frozen BK380.out 1;have hfz14_2:=blk_frozen BK380.out 2;have hfz14_3:=blk_frozen BK380.out 3;have hfz14_4:=blk_frozen BK380.out 4) | ((with_reducible refine gc (f:=70) rfl ?_);refine gl (some 12) Try.func70 #[.slice Ao8 l0_1.length co8,.int .i64 t381] ?_;(with_reducible refine (laws_markIntS.calls k (fun k_=>some k_ = (.slice Ao8 l0_1.length co8 : Value).ownBlock) (.slice Ao8 l0_1.length co8) l0_1 t381 t383 t384 w0 _ ?side1 ?side2 A4.out).mono ?_);(case side1=>repeat (first | (with_reducible first | exact HB.out | apply below_alloc | apply pw_below_drewN | apply below_drew1 | refine below_set ?_ GE380.out) | exact HB.out));(case side2=>exact Kd.R_tight rfl HO0_1.out);rintro e w15 ⟨rfl,hy0,hb,hkp⟩;refine ⟨_,rfl,?_⟩;have n_ : _∧_∧_∧_∧_∧_∧_:=⟨ak (Kd.R_mono (ok':=fun k_=>((P0_0_ k_ ∨ P0_1_ k_ ∨ P0_2_ k_ ∨ P0_4_ k_) ∨ w.heap.size ≤ k_)) (Kd.R_keptB ((Kd.R_apart' HO0_0.out (Kd.R_typed HO0_1.out) (by decide))) hkp (fun k_ hk_ hs_=>(hk_.2) hs_)) (fun k_ hk_=>hk_.1.1)),ak (Kd.R_reok rfl hy0 (fun k_ e_=>HO0_1.out.1 k_ e_)),ak (Kd.R_mono (ok':=fun k_=>((P0_0_ k_ ∨ P0_1_ k_ ∨ P0_2_ k_ ∨ P0_4_ k_) ∨ w.heap.size ≤ k_)) (Kd.R_keptB ((Kd.R_apart' HO0_2.out (Kd.R_typed HO0_1.out) (by decide))) hkp (fun k_ hk_ hs_=>(hk_.2) hs_)) (fun k_ hk_=>hk_.1.1)),ak (Kd.R_mono (ok':=fun k_=>((P0_0_ k_ ∨ P0_1_ k_ ∨ P0_2_ k_ ∨ P0_4_ k_) ∨ w.heap.size ≤ k_)∧some k_ ≠ (.slice Ao8 l0_1.length co8 : Value).ownBlock) (Kd.R_keptB (HO0_4.out) hkp (fun k_ hk_ hs_=>(hk_.2) hs_)) (fun k_ hk_=>⟨hk_.1.1,hk_.1.2⟩)),ak (blk_kept (rk BK380.out) hkp (fun hs_=>(fun e_=>(Kd.R_ne HO0_1.out BK380.out (by decide)) e_) hs_)),ak (Kept.then_ (S:=(fun k_=>P0_0_ k_ ∨ P0_1_ k_ ∨ P0_2_ k_ ∨ P0_4_ k_)) (by repeat (first | (with_reducible first | exact HK.out | apply Kept.alloc | apply Kept.drewN | apply Kept.drew | refine Kept.setCell ?_ (.inr GW380.out) _) | exact HK.out)) hkp (fun k_ hs_=>(fun e_=>(HO0_1.out.1 k_ e_.symm).1) hs_)),ak (hb)⟩;clear HO0_0 HO0_1 HO0_2 HO0_4 BK380 HK HB;obtain ⟨HO0_0,HO0_1,HO0_2,HO0_4,BK380,HK,HB⟩:=n_;(try clear hb);(try clear hkp);(try clear hy0);have hcz16_0 : w15.cell? ⟨gb380,0,none⟩ = some (.slice Ao7 l0_0.length co7):=(blk_cell BK380.out 0).trans rfl;have hcz16_1 : w15.cell? ⟨gb380,1,none⟩ = some (.slice Ao8 l0_1.length co8):=(blk_cell BK380.out 1).trans rfl;have hcz16_2 : w15.cell? ⟨gb380,2,none⟩ = some (.slice Ao9 l0_2.length co9):=(blk_cell BK380.out 2).trans rfl;have hcz16_3 : w15.cell? ⟨gb380,3,none⟩ = some (.int .i64 a0_3):=(blk_cell BK380.out 3).trans rfl;have hcz16_4 : w15.cell? ⟨gb380,4,none⟩ = some (.slice Ao10 l0_4.length co10):=(blk_cell BK380.out 4).trans rfl;have hfz16_0:=blk_frozen BK380.out 0;have hfz16_1:=blk_frozen BK380.out 1;have hfz16_2:=blk_frozen BK380.out 2;have hfz16_3:=blk_frozen BK380.out 3;have hfz16_4:=blk_frozen BK380.out 4) | ((with_reducible refine gc (f:=164) rfl ?_);refine gl (some 16) Try.func164 #[.slice Ao9 l0_2.length co9,.int .i64 t383] ?_;(with_reducible refine (laws_markEarlyS.calls k (fun k_=>some k_ = (.slice Ao9 l0_2.length co9 : Value).ownBlock) (.slice Ao9 l0_2.length co9) l0_2 t383 t385 t386 w0 _ ?side1 ?side2 A5.out).mono ?_);(case side1=>repeat (first | (with_reducible first | exact HB.out | apply below_alloc | apply pw_below_drewN | apply below_drew1 | refine below_set ?_ GE380.out) | exact HB.out));(case side2=>exact Kd.R_tight rfl HO0_2.out);rintro e w17 ⟨rfl,hy0,hb,hkp⟩;refine ⟨_,rfl,?_⟩;have n_ : _∧_∧_∧_∧_∧_∧_:=⟨ak (Kd.R_mono (ok':=fun k_=>((P0_0_ k_ ∨ P0_1_ k_ ∨ P0_2_ k_ ∨ P0_4_ k_) ∨ w.heap.size ≤ k_)) (Kd.R_keptB ((Kd.R_apart' HO0_0.out (Kd.R_typed HO0_2.out) (by decide))) hkp (fun k_ hk_ hs_=>(hk_.2) hs_)) (fun k_ hk_=>hk_.1.1)),ak (Kd.R_mono (ok':=fun k_=>((P0_0_ k_ ∨ P0_1_ k_ ∨ P0_2_ k_ ∨ P0_4_ k_) ∨ w.heap.size ≤ k_)∧some k_ ≠ (.slice Ao10 l0_4.length co10 : Value).ownBlock) (Kd.R_keptB ((Kd.R_apart' HO0_1.out (Kd.R_typed HO0_2.out) (by decide))) hkp (fun k_ hk_ hs_=>(hk_.2) hs_)) (fun k_ hk_=>⟨hk_.1.1.1,hk_.1.1.2⟩)),ak (Kd.R_reok rfl hy0 (fun k_ e_=>HO0_2.out.1 k_ e_)),ak (Kd.R_mono (ok':=fun k_=>((P0_0_ k_ ∨ P0_1_ k_ ∨ P0_2_ k_ ∨ P0_4_ k_) ∨ w.heap.size ≤ k_)∧some k_ ≠ (.slice Ao8 l0_1.length co8 : Value).ownBlock) (Kd.R_keptB ((Kd.R_apart' HO0_4.out (Kd.R_typed HO0_2.out) (by decide))) hkp (fun k_ hk_ hs_=>(hk_.2) hs_)) (fun k_ hk_=>⟨hk_.1.1.1,hk_.1.1.2⟩)),ak (blk_kept (rk BK380.out) hkp (fun hs_=>(fun e_=>(Kd.R_ne HO0_2.out BK380.out (by decide)) e_) hs_)),ak (Kept.then_ (S:=(fun k_=>P0_0_ k_ ∨ P0_1_ k_ ∨ P0_2_ k_ ∨ P0_4_ k_)) (by repeat (first | (with_reducible first | exact HK.out | apply Kept.alloc | apply Kept.drewN | apply Kept.drew | refine Kept.setCell ?_ (.inr GW380.out) _) | exact HK.out)) hkp (fun k_ hs_=>(fun e_=>(HO0_2.out.1 k_ e_.symm)) hs_)),ak (hb)⟩;clear HO0_0 HO0_1 HO0_2 HO0_4 BK380 HK HB;obtain ⟨HO0_0,HO0_1,HO0_2,HO0_4,BK380,HK,HB⟩:=n_;(try clear hb);(try clear hkp);(try clear hy0);have hcz18_0 : w17.cell? ⟨gb380,0,none⟩ = some (.slice Ao7 l0_0.length co7):=(blk_cell BK380.out 0).trans rfl;have hcz18_1 : w17.cell? ⟨gb380,1,none⟩ = some (.slice Ao8 l0_1.length co8):=(blk_cell BK380.out 1).trans rfl;have hcz18_2 : w17.cell? ⟨gb380,2,none⟩ = some (.slice Ao9 l0_2.length co9):=(blk_cell BK380.out 2).trans rfl;have hcz18_3 : w17.cell? ⟨gb380,3,none⟩ = some (.int .i64 a0_3):=(blk_cell BK380.out 3).trans rfl;have hcz18_4 : w17.cell? ⟨gb380,4,none⟩ = some (.slice Ao10 l0_4.length co10):=(blk_cell BK380.out 4).trans rfl;have hfz18_0:=blk_frozen BK380.out 0;have hfz18_1:=blk_frozen BK380.out 1;have hfz18_2:=blk_frozen BK380.out 2;have hfz18_3:=blk_frozen BK380.out 3;have hfz18_4:=blk_frozen BK380.out 4) | ((with_reducible refine gc (f:=70) rfl ?_);refine gl (some 20) Try.func70 #[.slice Ao10 l0_4.length co10,.int .i64 t385] ?_;(with_reducible refine (laws_markIntS.calls k (fun k_=>some k_ = (.slice Ao10 l0_4.length co10 : Value).ownBlock) (.slice Ao10 l0_4.length co10) l0_4 t385 t387 t388 w0 _ ?side1 ?side2 A6.out).mono ?_);(case side1=>repeat (first | (with_reducible first | exact HB.out | apply below_alloc | apply pw_below_drewN | apply below_drew1 | refine below_set ?_ GE380.out) | exact HB.out));(case side2=>exact Kd.R_tight rfl HO0_4.out);rintro e w19 ⟨rfl,hy0,hb,hkp⟩;refine ⟨_,rfl,?_⟩;have n_ : _∧_∧_∧_∧_∧_∧_:=⟨ak (Kd.R_mono (ok':=fun k_=>((P0_0_ k_ ∨ P0_1_ k_ ∨ P0_2_ k_ ∨ P0_4_ k_) ∨ w.heap.size ≤ k_)) (Kd.R_keptB ((Kd.R_apart' HO0_0.out (Kd.R_typed HO0_4.out) (by decide))) hkp (fun k_ hk_ hs_=>(hk_.2) hs_)) (fun k_ hk_=>hk_.1.1)),ak (Kd.R_mono (ok':=fun k_=>((P0_0_ k_ ∨ P0_1_ k_ ∨ P0_2_ k_ ∨ P0_4_ k_) ∨ w.heap.size ≤ k_)∧some k_ ≠ (.slice Ao10 l0_4.length co10 : Value).ownBlock) (Kd.R_keptB (HO0_1.out) hkp (fun k_ hk_ hs_=>(hk_.2) hs_)) (fun k_ hk_=>⟨hk_.1.1,hk_.1.2⟩)),ak (Kd.R_mono (ok':=fun k_=>((P0_0_ k_ ∨ P0_1_ k_ ∨ P0_2_ k_ ∨ P0_4_ k_) ∨ w.heap.size ≤ k_)) (Kd.R_keptB ((Kd.R_apart' HO0_2.out (Kd.R_typed HO0_4.out) (by decide))) hkp (fun k_ hk_ hs_=>(hk_.2) hs_)) (fun k_ hk_=>hk_.1.1)),ak (Kd.R_reok rfl hy0 (fun k_ e_=>HO0_4.out.1 k_ e_)),ak (blk_kept (rk BK380.out) hkp (fun hs_=>(fun e_=>(Kd.R_ne HO0_4.out BK380.out (by decide)) e_) hs_)),ak (Kept.then_ (S:=(fun k_=>P0_0_ k_ ∨ P0_1_ k_ ∨ P0_2_ k_ ∨ P0_4_ k_)) (by repeat (first | (with_reducible first | exact HK.out | apply Kept.alloc | apply Kept.drewN | apply Kept.drew | refine Kept.setCell ?_ (.inr GW380.out) _) | exact HK.out)) hkp (fun k_ hs_=>(fun e_=>(HO0_4.out.1 k_ e_.symm).1) hs_)),ak (hb)⟩;clear HO0_0 HO0_1 HO0_2 HO0_4 BK380 HK HB;obtain ⟨HO0_0,HO0_1,HO0_2,HO0_4,BK380,HK,HB⟩:=n_;(try clear hb);(try clear hkp);(try clear hy0)))
 go_ret
 exact ⟨by first | rfl | (simp [errW_none,errW_some] <;> rfl) | (simp [*,errW_none,errW_some] <;> rfl),rr HO0_0.out,rm HO0_1 (fun _ hk=>hk.1),rr HO0_2.out,rm HO0_4 (fun _ hk=>hk.1),rbx HB,by repeat (first | (with_reducible first | exact HK.out | apply Kept.alloc | apply Kept.drewN | apply Kept.drew | refine Kept.setCell ?_ (.inr GW380.out) _) | exact HK.out)⟩

/-! ### laws_heldEntryS: function 50 -/
def laws_heldEntryS.l0 : Nat→List (S134)→Int→Int→Option (Int)
 | 0,_,_,_=>none
 | k + 1,x0,x1,x5=>if x5 < (x0.length : Int) then (if 0 ≤ x5 then (if ((rd_T134 x0 x5).f0) = x1 then (if ((rd_T134 x0 x5).f1) = (wrap64 (x1 + 1)) then (if ((rd_T134 x0 x5).f2.f0) = (wrap64 ((wrap64 (x1 + 1)) + 1)) then (if ((rd_T134 x0 x5).f2.f1) = (wrap64 ((wrap64 ((wrap64 (x1 + 1)) + 1)) + 1)) then (if ((rd_T134 x0 x5).f2.f2) = (wrap64 ((wrap64 ((wrap64 ((wrap64 (x1 + 1)) + 1)) + 1)) + 1)) then (if ((rd_T134 x0 x5).f2.f3) = (wrap64 ((wrap64 ((wrap64 ((wrap64 ((wrap64 (x1 + 1)) + 1)) + 1)) + 1)) + 1)) then (laws_heldEntryS.l0 k x0 (wrap64 ((wrap64 ((wrap64 ((wrap64 ((wrap64 ((wrap64 (x1 + 1)) + 1)) + 1)) + 1)) + 1)) + 1)) (wrap64 (x5 + 1))) else (some (-1))) else (some (-1))) else (some (-1))) else (some (-1))) else (some (-1))) else (some (-1))) else (none)) else (some x1)
def laws_heldEntryS.f (k : Nat) (l0 : List (S134)) (a1 : Int) : Option (Int):=laws_heldEntryS.l0 k l0 a1 0
theorem laws_heldEntryS.mono_l : ∀ k,(∀ y0 y1 y2,LeO (laws_heldEntryS.l0 k y0 y1 y2) (laws_heldEntryS.l0 (k + 1) y0 y1 y2))
 | 0=>fun _ _ _ r h=>by simp [laws_heldEntryS.l0] at h
 | k + 1=>by
  have ih0:=laws_heldEntryS.mono_l k
  ·intro y0 y1 y2
   unfold laws_heldEntryS.l0
   repeat' first
   | (with_reducible apply ih0)
   | (with_reducible exact LeO.refl _)
   | (with_reducible exact LeO.none _)
   | (with_reducible refine LeO.ite ?_ ?_)
   | (with_reducible refine LeO.bind ?_ (fun _=>?_))
   | apply ih0
   | exact LeO.none _
   | refine LeO.ite ?_ ?_
   | refine LeO.bind ?_ (fun _=>?_)
theorem laws_heldEntryS.mono : ∀ a0 a1 k,LeO (laws_heldEntryS.f k a0 a1) (laws_heldEntryS.f (k + 1) a0 a1):=by
 intro a0 a1 k
 have ih0:=laws_heldEntryS.mono_l k
 unfold laws_heldEntryS.f
 repeat' first
   | (with_reducible apply ih0)
   | (with_reducible exact LeO.refl _)
   | (with_reducible exact LeO.none _)
   | (with_reducible refine LeO.ite ?_ ?_)
   | (with_reducible refine LeO.bind ?_ (fun _=>?_))
   | apply ih0
   | exact LeO.none _
   | refine LeO.ite ?_ ?_
   | refine LeO.bind ?_ (fun _=>?_)
set_option maxHeartbeats 8000000 in
theorem laws_heldEntryS.calls (k : Nat) (A0 : Option Addr) (c0 : Nat) (l0 : List (S134)) (a1 : Int) (r : Int) (w : World) (hr0 : Kd.C k134 w A0 l0.length l0) (hc0 : l0.length ≤ c0) (h : laws_heldEntryS.f k l0 a1 = some r) :
  Calls Try.prog 50 #[.slice A0 l0.length c0,.int .i64 a1] w fun e w'=>e = .returned (.int .i64 r)∧Drawn0 w w':=by
 have HR0:=ak hr0
 have HC0:=ak hc0
 clear hr0 hc0
 have H : (laws_heldEntryS.l0 k l0 a1 0) = some r:=h
 clear h
 have H':=ak H
 clear H
 go_enter Try.func50,Try.ntmps50
 go_wp2
 go_loopg [1,5] k (fun kq v1 v5 w'=>∃ (x1_1 : Int) (x5_1 : Int),v1 = .int .i64 x1_1∧v5 = .int .i64 x5_1∧Aside0 (laws_heldEntryS.l0 kq l0 x1_1 x5_1 = some r)∧Aside0 (kq ≤ k)∧Drawn0 w w')
 case atStart=>exact ⟨(a1),(0),(by first | rfl | (simp;done) | (simp [*];done)),(by first | rfl | (simp;done) | (simp [*];done)),H',⟨Nat.le_refl _⟩,by repeat (first | exact Drawn0.refl _ | apply Drawn0.step)⟩
 case round =>
  clear H'
  try clear p2
  obtain ⟨x1_1,x5_1,rfl,rfl,HA,HK1,⟨m1,rfl⟩⟩:=hrel
  cases gk with
  | zero=>exact absurd HA.out (by simp [laws_heldEntryS.l0])
  | succ k1 =>
   have H:=HA.out
   clear HA
   simp only [laws_heldEntryS.l0] at H
   by_cases c3 : x5_1 < (l0.length : Int)
   rotate_left
   ·rw [if_neg c3] at H
    have c3b0 : decide (x5_1 < (l0.length : Int)) = false:=decide_eq_false c3
    clear c3
    obtain rfl:=Option.some.inj H
    go_wp2
    go_ret
    exact ⟨by first | rfl | (simp;done) | (simp [*];done),by repeat (first | exact Drawn0.refl _ | apply Drawn0.step)⟩
   rw [if_pos c3] at H
   have c3b0 : decide (x5_1 < (l0.length : Int)) = true:=decide_eq_true c3
   clear c3
   by_cases c4 : 0 ≤ x5_1
   rotate_left
   ·rw [if_neg c4] at H
    exact absurd H (by simp)
   rw [if_pos c4] at H
   have c4b0 : decide (0 ≤ x5_1) = true:=decide_eq_true c4
   clear c4
   by_cases c5 : ((rd_T134 l0 x5_1).f0) = x1_1
   rotate_left
   ·rw [if_neg c5] at H
    have c5b0 : (((rd_T134 l0 x5_1).f0) == x1_1) = false:=beq_eq_false_iff_ne.mpr c5
    have c5b1 : (((rd_T134 l0 x5_1).f0) != x1_1) = true:=bne_iff_ne.mpr c5
    obtain rfl:=Option.some.inj H
    have p389 : 0 ≤ (x5_1 : Int):=of_decide_eq_true (by first | (with_reducible assumption) | assumption)
    have q389 : x5_1 < (l0.length : Int):=of_decide_eq_true (by first | (with_reducible assumption) | assumption)
    obtain ⟨ad389,e389,hx389_0,hx389_1,hx389_2,hx389_3,hx389_4,hx389_5⟩:=at_T134 HR0.out x5_1 p389 q389
    cases e389
    replace p389:=eq_true p389
    replace q389:=eq_true q389
    go_wp2
    go_ret
    exact ⟨by first | rfl | (simp;done) | (simp [*];done),by repeat (first | exact Drawn0.refl _ | apply Drawn0.step)⟩
   rw [if_pos c5] at H
   have c5b0 : (((rd_T134 l0 x5_1).f0) == x1_1) = true:=beq_iff_eq.mpr c5
   have c5b1 : (((rd_T134 l0 x5_1).f0) != x1_1) = false:=bne_eq_false_iff_eq.mpr c5
   clear c5
   by_cases c6 : ((rd_T134 l0 x5_1).f1) = (wrap64 (x1_1 + 1))
   rotate_left
   ·rw [if_neg c6] at H
    have c6b0 : (((rd_T134 l0 x5_1).f1) == (wrap64 (x1_1 + 1))) = false:=beq_eq_false_iff_ne.mpr c6
    have c6b1 : (((rd_T134 l0 x5_1).f1) != (wrap64 (x1_1 + 1))) = true:=bne_iff_ne.mpr c6
    obtain rfl:=Option.some.inj H
    have p389 : 0 ≤ (x5_1 : Int):=of_decide_eq_true (by first | (with_reducible assumption) | assumption)
    have q389 : x5_1 < (l0.length : Int):=of_decide_eq_true (by first | (with_reducible assumption) | assumption)
    obtain ⟨ad389,e389,hx389_0,hx389_1,hx389_2,hx389_3,hx389_4,hx389_5⟩:=at_T134 HR0.out x5_1 p389 q389
    cases e389
    replace p389:=eq_true p389
    replace q389:=eq_true q389
    have p390 : 0 ≤ (x5_1 : Int):=of_decide_eq_true (by first | (with_reducible assumption) | assumption)
    have q390 : x5_1 < (l0.length : Int):=of_decide_eq_true (by first | (with_reducible assumption) | assumption)
    obtain ⟨ad390,e390,hx390_0,hx390_1,hx390_2,hx390_3,hx390_4,hx390_5⟩:=at_T134 HR0.out x5_1 p390 q390
    obtain rfl : ad389 = ad390:=(by injection e390)
    replace p390:=eq_true p390
    replace q390:=eq_true q390
    go_wp2
    go_ret
    exact ⟨by first | rfl | (simp;done) | (simp [*];done),by repeat (first | exact Drawn0.refl _ | apply Drawn0.step)⟩
   rw [if_pos c6] at H
   have c6b0 : (((rd_T134 l0 x5_1).f1) == (wrap64 (x1_1 + 1))) = true:=beq_iff_eq.mpr c6
   have c6b1 : (((rd_T134 l0 x5_1).f1) != (wrap64 (x1_1 + 1))) = false:=bne_eq_false_iff_eq.mpr c6
   clear c6
   by_cases c7 : ((rd_T134 l0 x5_1).f2.f0) = (wrap64 ((wrap64 (x1_1 + 1)) + 1))
   rotate_left
   ·rw [if_neg c7] at H
    have c7b0 : (((rd_T134 l0 x5_1).f2.f0) == (wrap64 ((wrap64 (x1_1 + 1)) + 1))) = false:=beq_eq_false_iff_ne.mpr c7
    have c7b1 : (((rd_T134 l0 x5_1).f2.f0) != (wrap64 ((wrap64 (x1_1 + 1)) + 1))) = true:=bne_iff_ne.mpr c7
    obtain rfl:=Option.some.inj H
    have p389 : 0 ≤ (x5_1 : Int):=of_decide_eq_true (by first | (with_reducible assumption) | assumption)
    have q389 : x5_1 < (l0.length : Int):=of_decide_eq_true (by first | (with_reducible assumption) | assumption)
    obtain ⟨ad389,e389,hx389_0,hx389_1,hx389_2,hx389_3,hx389_4,hx389_5⟩:=at_T134 HR0.out x5_1 p389 q389
    cases e389
    replace p389:=eq_true p389
    replace q389:=eq_true q389
    have p390 : 0 ≤ (x5_1 : Int):=of_decide_eq_true (by first | (with_reducible assumption) | assumption)
    have q390 : x5_1 < (l0.length : Int):=of_decide_eq_true (by first | (with_reducible assumption) | assumption)
    obtain ⟨ad390,e390,hx390_0,hx390_1,hx390_2,hx390_3,hx390_4,hx390_5⟩:=at_T134 HR0.out x5_1 p390 q390
    obtain rfl : ad389 = ad390:=(by injection e390)
    replace p390:=eq_true p390
    replace q390:=eq_true q390
    have p391 : 0 ≤ (x5_1 : Int):=of_decide_eq_true (by first | (with_reducible assumption) | assumption)
    have q391 : x5_1 < (l0.length : Int):=of_decide_eq_true (by first | (with_reducible assumption) | assumption)
    obtain ⟨ad391,e391,hx391_0,hx391_1,hx391_2,hx391_3,hx391_4,hx391_5⟩:=at_T134 HR0.out x5_1 p391 q391
    obtain rfl : ad389 = ad391:=(by injection e391)
    replace p391:=eq_true p391
    replace q391:=eq_true q391
    go_wp2
    go_ret
    exact ⟨by first | rfl | (simp;done) | (simp [*];done),by repeat (first | exact Drawn0.refl _ | apply Drawn0.step)⟩
   rw [if_pos c7] at H
   have c7b0 : (((rd_T134 l0 x5_1).f2.f0) == (wrap64 ((wrap64 (x1_1 + 1)) + 1))) = true:=beq_iff_eq.mpr c7
   have c7b1 : (((rd_T134 l0 x5_1).f2.f0) != (wrap64 ((wrap64 (x1_1 + 1)) + 1))) = false:=bne_eq_false_iff_eq.mpr c7
   clear c7
   by_cases c8 : ((rd_T134 l0 x5_1).f2.f1) = (wrap64 ((wrap64 ((wrap64 (x1_1 + 1)) + 1)) + 1))
   rotate_left
   ·rw [if_neg c8] at H
    have c8b0 : (((rd_T134 l0 x5_1).f2.f1) == (wrap64 ((wrap64 ((wrap64 (x1_1 + 1)) + 1)) + 1))) = false:=beq_eq_false_iff_ne.mpr c8
    have c8b1 : (((rd_T134 l0 x5_1).f2.f1) != (wrap64 ((wrap64 ((wrap64 (x1_1 + 1)) + 1)) + 1))) = true:=bne_iff_ne.mpr c8
    obtain rfl:=Option.some.inj H
    have p389 : 0 ≤ (x5_1 : Int):=of_decide_eq_true (by first | (with_reducible assumption) | assumption)
    have q389 : x5_1 < (l0.length : Int):=of_decide_eq_true (by first | (with_reducible assumption) | assumption)
    obtain ⟨ad389,e389,hx389_0,hx389_1,hx389_2,hx389_3,hx389_4,hx389_5⟩:=at_T134 HR0.out x5_1 p389 q389
    cases e389
    replace p389:=eq_true p389
    replace q389:=eq_true q389
    have p390 : 0 ≤ (x5_1 : Int):=of_decide_eq_true (by first | (with_reducible assumption) | assumption)
    have q390 : x5_1 < (l0.length : Int):=of_decide_eq_true (by first | (with_reducible assumption) | assumption)
    obtain ⟨ad390,e390,hx390_0,hx390_1,hx390_2,hx390_3,hx390_4,hx390_5⟩:=at_T134 HR0.out x5_1 p390 q390
    obtain rfl : ad389 = ad390:=(by injection e390)
    replace p390:=eq_true p390
    replace q390:=eq_true q390
    have p391 : 0 ≤ (x5_1 : Int):=of_decide_eq_true (by first | (with_reducible assumption) | assumption)
    have q391 : x5_1 < (l0.length : Int):=of_decide_eq_true (by first | (with_reducible assumption) | assumption)
    obtain ⟨ad391,e391,hx391_0,hx391_1,hx391_2,hx391_3,hx391_4,hx391_5⟩:=at_T134 HR0.out x5_1 p391 q391
    obtain rfl : ad389 = ad391:=(by injection e391)
    replace p391:=eq_true p391
    replace q391:=eq_true q391
    have p392 : 0 ≤ (x5_1 : Int):=of_decide_eq_true (by first | (with_reducible assumption) | assumption)
    have q392 : x5_1 < (l0.length : Int):=of_decide_eq_true (by first | (with_reducible assumption) | assumption)
    obtain ⟨ad392,e392,hx392_0,hx392_1,hx392_2,hx392_3,hx392_4,hx392_5⟩:=at_T134 HR0.out x5_1 p392 q392
    obtain rfl : ad389 = ad392:=(by injection e392)
    replace p392:=eq_true p392
    replace q392:=eq_true q392
    go_wp2
    go_ret
    exact ⟨by first | rfl | (simp;done) | (simp [*];done),by repeat (first | exact Drawn0.refl _ | apply Drawn0.step)⟩
   rw [if_pos c8] at H
   have c8b0 : (((rd_T134 l0 x5_1).f2.f1) == (wrap64 ((wrap64 ((wrap64 (x1_1 + 1)) + 1)) + 1))) = true:=beq_iff_eq.mpr c8
   have c8b1 : (((rd_T134 l0 x5_1).f2.f1) != (wrap64 ((wrap64 ((wrap64 (x1_1 + 1)) + 1)) + 1))) = false:=bne_eq_false_iff_eq.mpr c8
   clear c8
   by_cases c9 : ((rd_T134 l0 x5_1).f2.f2) = (wrap64 ((wrap64 ((wrap64 ((wrap64 (x1_1 + 1)) + 1)) + 1)) + 1))
   rotate_left
   ·rw [if_neg c9] at H
    have c9b0 : (((rd_T134 l0 x5_1).f2.f2) == (wrap64 ((wrap64 ((wrap64 ((wrap64 (x1_1 + 1)) + 1)) + 1)) + 1))) = false:=beq_eq_false_iff_ne.mpr c9
    have c9b1 : (((rd_T134 l0 x5_1).f2.f2) != (wrap64 ((wrap64 ((wrap64 ((wrap64 (x1_1 + 1)) + 1)) + 1)) + 1))) = true:=bne_iff_ne.mpr c9
    obtain rfl:=Option.some.inj H
    have p389 : 0 ≤ (x5_1 : Int):=of_decide_eq_true (by first | (with_reducible assumption) | assumption)
    have q389 : x5_1 < (l0.length : Int):=of_decide_eq_true (by first | (with_reducible assumption) | assumption)
    obtain ⟨ad389,e389,hx389_0,hx389_1,hx389_2,hx389_3,hx389_4,hx389_5⟩:=at_T134 HR0.out x5_1 p389 q389
    cases e389
    replace p389:=eq_true p389
    replace q389:=eq_true q389
    have p390 : 0 ≤ (x5_1 : Int):=of_decide_eq_true (by first | (with_reducible assumption) | assumption)
    have q390 : x5_1 < (l0.length : Int):=of_decide_eq_true (by first | (with_reducible assumption) | assumption)
    obtain ⟨ad390,e390,hx390_0,hx390_1,hx390_2,hx390_3,hx390_4,hx390_5⟩:=at_T134 HR0.out x5_1 p390 q390
    obtain rfl : ad389 = ad390:=(by injection e390)
    replace p390:=eq_true p390
    replace q390:=eq_true q390
    have p391 : 0 ≤ (x5_1 : Int):=of_decide_eq_true (by first | (with_reducible assumption) | assumption)
    have q391 : x5_1 < (l0.length : Int):=of_decide_eq_true (by first | (with_reducible assumption) | assumption)
    obtain ⟨ad391,e391,hx391_0,hx391_1,hx391_2,hx391_3,hx391_4,hx391_5⟩:=at_T134 HR0.out x5_1 p391 q391
    obtain rfl : ad389 = ad391:=(by injection e391)
    replace p391:=eq_true p391
    replace q391:=eq_true q391
    have p392 : 0 ≤ (x5_1 : Int):=of_decide_eq_true (by first | (with_reducible assumption) | assumption)
    have q392 : x5_1 < (l0.length : Int):=of_decide_eq_true (by first | (with_reducible assumption) | assumption)
    obtain ⟨ad392,e392,hx392_0,hx392_1,hx392_2,hx392_3,hx392_4,hx392_5⟩:=at_T134 HR0.out x5_1 p392 q392
    obtain rfl : ad389 = ad392:=(by injection e392)
    replace p392:=eq_true p392
    replace q392:=eq_true q392
    have p393 : 0 ≤ (x5_1 : Int):=of_decide_eq_true (by first | (with_reducible assumption) | assumption)
    have q393 : x5_1 < (l0.length : Int):=of_decide_eq_true (by first | (with_reducible assumption) | assumption)
    obtain ⟨ad393,e393,hx393_0,hx393_1,hx393_2,hx393_3,hx393_4,hx393_5⟩:=at_T134 HR0.out x5_1 p393 q393
    obtain rfl : ad389 = ad393:=(by injection e393)
    replace p393:=eq_true p393
    replace q393:=eq_true q393
    go_wp2
    go_ret
    exact ⟨by first | rfl | (simp;done) | (simp [*];done),by repeat (first | exact Drawn0.refl _ | apply Drawn0.step)⟩
   rw [if_pos c9] at H
   have c9b0 : (((rd_T134 l0 x5_1).f2.f2) == (wrap64 ((wrap64 ((wrap64 ((wrap64 (x1_1 + 1)) + 1)) + 1)) + 1))) = true:=beq_iff_eq.mpr c9
   have c9b1 : (((rd_T134 l0 x5_1).f2.f2) != (wrap64 ((wrap64 ((wrap64 ((wrap64 (x1_1 + 1)) + 1)) + 1)) + 1))) = false:=bne_eq_false_iff_eq.mpr c9
   clear c9
   by_cases c10 : ((rd_T134 l0 x5_1).f2.f3) = (wrap64 ((wrap64 ((wrap64 ((wrap64 ((wrap64 (x1_1 + 1)) + 1)) + 1)) + 1)) + 1))
   ·rw [if_pos c10] at H
    have c10b0 : (((rd_T134 l0 x5_1).f2.f3) == (wrap64 ((wrap64 ((wrap64 ((wrap64 ((wrap64 (x1_1 + 1)) + 1)) + 1)) + 1)) + 1))) = true:=beq_iff_eq.mpr c10
    have c10b1 : (((rd_T134 l0 x5_1).f2.f3) != (wrap64 ((wrap64 ((wrap64 ((wrap64 ((wrap64 (x1_1 + 1)) + 1)) + 1)) + 1)) + 1))) = false:=bne_eq_false_iff_eq.mpr c10
    clear c10
    have H':=ak H
    clear H
    have p389 : 0 ≤ (x5_1 : Int):=of_decide_eq_true (by first | (with_reducible assumption) | assumption)
    have q389 : x5_1 < (l0.length : Int):=of_decide_eq_true (by first | (with_reducible assumption) | assumption)
    obtain ⟨ad389,e389,hx389_0,hx389_1,hx389_2,hx389_3,hx389_4,hx389_5⟩:=at_T134 HR0.out x5_1 p389 q389
    cases e389
    replace p389:=eq_true p389
    replace q389:=eq_true q389
    have p390 : 0 ≤ (x5_1 : Int):=of_decide_eq_true (by first | (with_reducible assumption) | assumption)
    have q390 : x5_1 < (l0.length : Int):=of_decide_eq_true (by first | (with_reducible assumption) | assumption)
    obtain ⟨ad390,e390,hx390_0,hx390_1,hx390_2,hx390_3,hx390_4,hx390_5⟩:=at_T134 HR0.out x5_1 p390 q390
    obtain rfl : ad389 = ad390:=(by injection e390)
    replace p390:=eq_true p390
    replace q390:=eq_true q390
    have p391 : 0 ≤ (x5_1 : Int):=of_decide_eq_true (by first | (with_reducible assumption) | assumption)
    have q391 : x5_1 < (l0.length : Int):=of_decide_eq_true (by first | (with_reducible assumption) | assumption)
    obtain ⟨ad391,e391,hx391_0,hx391_1,hx391_2,hx391_3,hx391_4,hx391_5⟩:=at_T134 HR0.out x5_1 p391 q391
    obtain rfl : ad389 = ad391:=(by injection e391)
    replace p391:=eq_true p391
    replace q391:=eq_true q391
    have p392 : 0 ≤ (x5_1 : Int):=of_decide_eq_true (by first | (with_reducible assumption) | assumption)
    have q392 : x5_1 < (l0.length : Int):=of_decide_eq_true (by first | (with_reducible assumption) | assumption)
    obtain ⟨ad392,e392,hx392_0,hx392_1,hx392_2,hx392_3,hx392_4,hx392_5⟩:=at_T134 HR0.out x5_1 p392 q392
    obtain rfl : ad389 = ad392:=(by injection e392)
    replace p392:=eq_true p392
    replace q392:=eq_true q392
    have p393 : 0 ≤ (x5_1 : Int):=of_decide_eq_true (by first | (with_reducible assumption) | assumption)
    have q393 : x5_1 < (l0.length : Int):=of_decide_eq_true (by first | (with_reducible assumption) | assumption)
    obtain ⟨ad393,e393,hx393_0,hx393_1,hx393_2,hx393_3,hx393_4,hx393_5⟩:=at_T134 HR0.out x5_1 p393 q393
    obtain rfl : ad389 = ad393:=(by injection e393)
    replace p393:=eq_true p393
    replace q393:=eq_true q393
    have p394 : 0 ≤ (x5_1 : Int):=of_decide_eq_true (by first | (with_reducible assumption) | assumption)
    have q394 : x5_1 < (l0.length : Int):=of_decide_eq_true (by first | (with_reducible assumption) | assumption)
    obtain ⟨ad394,e394,hx394_0,hx394_1,hx394_2,hx394_3,hx394_4,hx394_5⟩:=at_T134 HR0.out x5_1 p394 q394
    obtain rfl : ad389 = ad394:=(by injection e394)
    replace p394:=eq_true p394
    replace q394:=eq_true q394
    go_wp2
    go_roundg k1
    case measure=>have:=HK1.out;omega
    case rel=>exact ⟨(wrap64 ((wrap64 ((wrap64 ((wrap64 ((wrap64 ((wrap64 (x1_1 + 1)) + 1)) + 1)) + 1)) + 1)) + 1)),(wrap64 (x5_1 + 1)),(by first | rfl | (simp;done) | (simp [*];done)),(by first | rfl | (simp;done) | (simp [*];done)),H',⟨by have:=HK1.out;omega⟩,by repeat (first | exact Drawn0.refl _ | apply Drawn0.step)⟩
   rw [if_neg c10] at H
   have c10b0 : (((rd_T134 l0 x5_1).f2.f3) == (wrap64 ((wrap64 ((wrap64 ((wrap64 ((wrap64 (x1_1 + 1)) + 1)) + 1)) + 1)) + 1))) = false:=beq_eq_false_iff_ne.mpr c10
   have c10b1 : (((rd_T134 l0 x5_1).f2.f3) != (wrap64 ((wrap64 ((wrap64 ((wrap64 ((wrap64 (x1_1 + 1)) + 1)) + 1)) + 1)) + 1))) = true:=bne_iff_ne.mpr c10
   obtain rfl:=Option.some.inj H
   have p389 : 0 ≤ (x5_1 : Int):=of_decide_eq_true (by first | (with_reducible assumption) | assumption)
   have q389 : x5_1 < (l0.length : Int):=of_decide_eq_true (by first | (with_reducible assumption) | assumption)
   obtain ⟨ad389,e389,hx389_0,hx389_1,hx389_2,hx389_3,hx389_4,hx389_5⟩:=at_T134 HR0.out x5_1 p389 q389
   cases e389
   replace p389:=eq_true p389
   replace q389:=eq_true q389
   have p390 : 0 ≤ (x5_1 : Int):=of_decide_eq_true (by first | (with_reducible assumption) | assumption)
   have q390 : x5_1 < (l0.length : Int):=of_decide_eq_true (by first | (with_reducible assumption) | assumption)
   obtain ⟨ad390,e390,hx390_0,hx390_1,hx390_2,hx390_3,hx390_4,hx390_5⟩:=at_T134 HR0.out x5_1 p390 q390
   obtain rfl : ad389 = ad390:=(by injection e390)
   replace p390:=eq_true p390
   replace q390:=eq_true q390
   have p391 : 0 ≤ (x5_1 : Int):=of_decide_eq_true (by first | (with_reducible assumption) | assumption)
   have q391 : x5_1 < (l0.length : Int):=of_decide_eq_true (by first | (with_reducible assumption) | assumption)
   obtain ⟨ad391,e391,hx391_0,hx391_1,hx391_2,hx391_3,hx391_4,hx391_5⟩:=at_T134 HR0.out x5_1 p391 q391
   obtain rfl : ad389 = ad391:=(by injection e391)
   replace p391:=eq_true p391
   replace q391:=eq_true q391
   have p392 : 0 ≤ (x5_1 : Int):=of_decide_eq_true (by first | (with_reducible assumption) | assumption)
   have q392 : x5_1 < (l0.length : Int):=of_decide_eq_true (by first | (with_reducible assumption) | assumption)
   obtain ⟨ad392,e392,hx392_0,hx392_1,hx392_2,hx392_3,hx392_4,hx392_5⟩:=at_T134 HR0.out x5_1 p392 q392
   obtain rfl : ad389 = ad392:=(by injection e392)
   replace p392:=eq_true p392
   replace q392:=eq_true q392
   have p393 : 0 ≤ (x5_1 : Int):=of_decide_eq_true (by first | (with_reducible assumption) | assumption)
   have q393 : x5_1 < (l0.length : Int):=of_decide_eq_true (by first | (with_reducible assumption) | assumption)
   obtain ⟨ad393,e393,hx393_0,hx393_1,hx393_2,hx393_3,hx393_4,hx393_5⟩:=at_T134 HR0.out x5_1 p393 q393
   obtain rfl : ad389 = ad393:=(by injection e393)
   replace p393:=eq_true p393
   replace q393:=eq_true q393
   have p394 : 0 ≤ (x5_1 : Int):=of_decide_eq_true (by first | (with_reducible assumption) | assumption)
   have q394 : x5_1 < (l0.length : Int):=of_decide_eq_true (by first | (with_reducible assumption) | assumption)
   obtain ⟨ad394,e394,hx394_0,hx394_1,hx394_2,hx394_3,hx394_4,hx394_5⟩:=at_T134 HR0.out x5_1 p394 q394
   obtain rfl : ad389 = ad394:=(by injection e394)
   replace p394:=eq_true p394
   replace q394:=eq_true q394
   go_wp2
   go_ret
   exact ⟨by first | rfl | (simp;done) | (simp [*];done),by repeat (first | exact Drawn0.refl _ | apply Drawn0.step)⟩

end Go.Proofs.Ythdeicbkimlnhaa.PFnExactKept
