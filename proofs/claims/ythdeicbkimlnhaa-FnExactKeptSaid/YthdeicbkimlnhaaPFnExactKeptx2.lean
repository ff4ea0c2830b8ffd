import Derived.Test.YthdeicbkimlnhaaPFnExactKeptx0
namespace Go.Proofs.Ythdeicbkimlnhaa.PFnExactKept
open Go.RowKit Go.Proofs.YthdeicbkimlnhaaW.PrintWords Go.Proofs.YthdeicbkimlnhaaW.PrintLast Go.Proofs.YthdeicbkimlnhaaW.PrintMore Go.Proofs.YthdeicbkimlnhaaH
attribute [local go_sem] max2_int min2_int max_two min_two max_three min_three max_four min_four   -- for this text's walks alone
set_option linter.unusedVariables false
set_option linter.unusedSimpArgs false
set_option maxRecDepth 100000

/-! ### laws_szEntryS: function 97 -/
def laws_szEntryS.f (l0 : List (S175)) (a1 : Int) : Option (Int):=if (wrap64 (a1 - (l0.length : Int))) < 0 then (some (-1)) else (some (wrap64 (a1 - (l0.length : Int))))
set_option maxHeartbeats 8000000 in
theorem laws_szEntryS.calls (A0 : Option Addr) (c0 : Nat) (l0 : List (S175)) (a1 : Int) (r : Int) (w : World) (hr0 : Kd.C k175 w A0 l0.length l0) (hc0 : l0.length ≤ c0) (h : laws_szEntryS.f l0 a1 = some r) :
  Calls Try.prog 97 #[.slice A0 l0.length c0,.int .i64 a1] w fun e w'=>e = .returned (.int .i64 r)∧Drawn0 w w':=by
 have HR0:=ak hr0
 have HC0:=ak hc0
 clear hr0 hc0
 have H : (if (wrap64 (a1 - (l0.length : Int))) < 0 then (some (-1)) else (some (wrap64 (a1 - (l0.length : Int))))) = some r:=h
 clear h
 by_cases c3 : (wrap64 (a1 - (l0.length : Int))) < 0
 ·rw [if_pos c3] at H
  have c3b0 : decide ((wrap64 (a1 - (l0.length : Int))) < 0) = true:=decide_eq_true c3
  clear c3
  obtain rfl:=Option.some.inj H
  go_enter Try.func97,Try.ntmps97
  go_wp2
  go_ret
  exact ⟨by first | rfl | (simp;done) | (simp [*];done),by repeat (first | exact Drawn0.refl _ | apply Drawn0.step)⟩
 rw [if_neg c3] at H
 have c3b0 : decide ((wrap64 (a1 - (l0.length : Int))) < 0) = false:=decide_eq_false c3
 clear c3
 obtain rfl:=Option.some.inj H
 go_enter Try.func97,Try.ntmps97
 go_wp2
 go_ret
 exact ⟨by first | rfl | (simp;done) | (simp [*];done),by repeat (first | exact Drawn0.refl _ | apply Drawn0.step)⟩

/-! ### laws_szIntS: function 98 -/
def laws_szIntS.f (l0 : List Int) (a1 : Int) : Option (Int):=if (wrap64 (a1 - (l0.length : Int))) < 0 then (some (-1)) else (some (wrap64 (a1 - (l0.length : Int))))
set_option maxHeartbeats 8000000 in
theorem laws_szIntS.calls (A0 : Option Addr) (c0 : Nat) (l0 : List Int) (a1 : Int) (r : Int) (w : World) (hr0 : Kd.C (Kd.int .i64) w A0 l0.length l0) (hc0 : l0.length ≤ c0) (h : laws_szIntS.f l0 a1 = some r) :
  Calls Try.prog 98 #[.slice A0 l0.length c0,.int .i64 a1] w fun e w'=>e = .returned (.int .i64 r)∧Drawn0 w w':=by
 have HR0:=ak hr0
 have HC0:=ak hc0
 clear hr0 hc0
 have H : (if (wrap64 (a1 - (l0.length : Int))) < 0 then (some (-1)) else (some (wrap64 (a1 - (l0.length : Int))))) = some r:=h
 clear h
 by_cases c3 : (wrap64 (a1 - (l0.length : Int))) < 0
 ·rw [if_pos c3] at H
  have c3b0 : decide ((wrap64 (a1 - (l0.length : Int))) < 0) = true:=decide_eq_true c3
  clear c3
  obtain rfl:=Option.some.inj H
  go_enter Try.func98,Try.ntmps98
  go_wp2
  go_ret
  exact ⟨by first | rfl | (simp;done) | (simp [*];done),by repeat (first | exact Drawn0.refl _ | apply Drawn0.step)⟩
 rw [if_neg c3] at H
 have c3b0 : decide ((wrap64 (a1 - (l0.length : Int))) < 0) = false:=decide_eq_false c3
 clear c3
 obtain rfl:=Option.some.inj H
 go_enter Try.func98,Try.ntmps98
 go_wp2
 go_ret
 exact ⟨by first | rfl | (simp;done) | (simp [*];done),by repeat (first | exact Drawn0.refl _ | apply Drawn0.step)⟩

/-! ### laws_szEarlyS: function 99 -/
def laws_szEarlyS.f (l0 : List (S177)) (a1 : Int) : Option (Int):=if (wrap64 (a1 - (l0.length : Int))) < 0 then (some (-1)) else (some (wrap64 (a1 - (l0.length : Int))))
set_option maxHeartbeats 8000000 in
theorem laws_szEarlyS.calls (A0 : Option Addr) (c0 : Nat) (l0 : List (S177)) (a1 : Int) (r : Int) (w : World) (hr0 : Kd.C k177 w A0 l0.length l0) (hc0 : l0.length ≤ c0) (h : laws_szEarlyS.f l0 a1 = some r) :
  Calls Try.prog 99 #[.slice A0 l0.length c0,.int .i64 a1] w fun e w'=>e = .returned (.int .i64 r)∧Drawn0 w w':=by
 have HR0:=ak hr0
 have HC0:=ak hc0
 clear hr0 hc0
 have H : (if (wrap64 (a1 - (l0.length : Int))) < 0 then (some (-1)) else (some (wrap64 (a1 - (l0.length : Int))))) = some r:=h
 clear h
 by_cases c3 : (wrap64 (a1 - (l0.length : Int))) < 0
 ·rw [if_pos c3] at H
  have c3b0 : decide ((wrap64 (a1 - (l0.length : Int))) < 0) = true:=decide_eq_true c3
  clear c3
  obtain rfl:=Option.some.inj H
  go_enter Try.func99,Try.ntmps99
  go_wp2
  go_ret
  exact ⟨by first | rfl | (simp;done) | (simp [*];done),by repeat (first | exact Drawn0.refl _ | apply Drawn0.step)⟩
 rw [if_neg c3] at H
 have c3b0 : decide ((wrap64 (a1 - (l0.length : Int))) < 0) = false:=decide_eq_false c3
 clear c3
 obtain rfl:=Option.some.inj H
 go_enter Try.func99,Try.ntmps99
 go_wp2
 go_ret
 exact ⟨by first | rfl | (simp;done) | (simp [*];done),by repeat (first | exact Drawn0.refl _ | apply Drawn0.step)⟩

/-! ### laws_szKeeper: function 23 -/
def laws_szKeeper.f (l0_0 : List (S175)) (l0_1 : List Int) (l0_2 : List (S177)) (a0_3 : Int) (l0_4 : List Int) (a1 : Int) : Option (Int):=(laws_szEntryS.f l0_0 a1).bind fun t102=>(if t102 < 0 then (some (-1)) else ((laws_szIntS.f l0_1 t102).bind fun t103=>(if t103 < 0 then (some (-1)) else ((laws_szEarlyS.f l0_2 t103).bind fun t104=>(if t104 < 0 then (some (-1)) else ((laws_szIntS.f l0_4 t104).bind fun t105=>(if t105 < 0 then (some (-1)) else (some t105))))))))
set_option maxHeartbeats 8000000 in
theorem laws_szKeeper.calls (A0_0 : Option Addr) (c0_0 : Nat) (l0_0 : List (S175)) (A0_1 : Option Addr) (c0_1 : Nat) (l0_1 : List Int) (A0_2 : Option Addr) (c0_2 : Nat) (l0_2 : List (S177)) (a0_3 : Int) (A0_4 : Option Addr) (c0_4 : Nat) (l0_4 : List Int) (a1 : Int) (r : Int) (w : World) (hr0_0 : Kd.C k175 w A0_0 l0_0.length l0_0) (hc0_0 : l0_0.length ≤ c0_0) (hr0_1 : Kd.C (Kd.int .i64) w A0_1 l0_1.length l0_1) (hc0_1 : l0_1.length ≤ c0_1) (hr0_2 : Kd.C k177 w A0_2 l0_2.length l0_2) (hc0_2 : l0_2.length ≤ c0_2) (hr0_4 : Kd.C (Kd.int .i64) w A0_4 l0_4.length l0_4) (hc0_4 : l0_4.length ≤ c0_4) (h : laws_szKeeper.f l0_0 l0_1 l0_2 a0_3 l0_4 a1 = some r) :
  Calls Try.prog 23 #[.agg #[.slice A0_0 l0_0.length c0_0,.slice A0_1 l0_1.length c0_1,.slice A0_2 l0_2.length c0_2,.int .i64 a0_3,.slice A0_4 l0_4.length c0_4],.int .i64 a1] w fun e w'=>e = .returned (.int .i64 r)∧Below w.heap.size w w':=by
 have hu45:=Try.underlying45
 have HR0_0:=ak hr0_0
 have HC0_0:=ak hc0_0
 clear hr0_0 hc0_0
 have HR0_1:=ak hr0_1
 have HC0_1:=ak hc0_1
 clear hr0_1 hc0_1
 have HR0_2:=ak hr0_2
 have HC0_2:=ak hc0_2
 clear hr0_2 hc0_2
 have HR0_4:=ak hr0_4
 have HC0_4:=ak hc0_4
 clear hr0_4 hc0_4
 have HB:=ak (Below.refl w.heap.size w)
 have H:=h
 clear h
 unfold laws_szKeeper.f at H
 replace H:=Option.bind_eq_some_iff.mp H
 obtain ⟨t102,A30,H⟩:=H
 try dsimp only at H
 have A3:=ak A30
 clear A30
 by_cases c4 : t102 < 0
 ·rw [if_pos c4] at H
  have c4b0 : decide (t102 < 0) = true:=decide_eq_true c4
  clear c4
  obtain rfl:=Option.some.inj H
  go_enter Try.func23,Try.ntmps23
  go_wp2_with (first | ((with_reducible refine gate_dst (N:=2) rfl ?_);refine box_event ?hg (N:=2) ?hd (cs:=#[.slice A0_0 l0_0.length c0_0,.slice A0_1 l0_1.length c0_1,.slice A0_2 l0_2.length c0_2,.int .i64 a0_3,.slice A0_4 l0_4.length c0_4]) (t:=45) ?hr ?_;(case hd=>rfl);(case hg=>rfl);(case hr=>first | (go_simp;done) | (go_simp;rfl));intro gb101 hg w5 hbox hb;have n_ : _∧_∧_∧_:=⟨kh HB hb,ak (hbox),kz HB hg,kz HB hg⟩;clear HB hb hbox hg;obtain ⟨HB,BK101,GW101,GE101⟩:=n_;have hcz6_0 : w5.cell? ⟨gb101,0,none⟩ = some (.slice A0_0 l0_0.length c0_0):=(blk_cell BK101.out 0).trans rfl;have hcz6_1 : w5.cell? ⟨gb101,1,none⟩ = some (.slice A0_1 l0_1.length c0_1):=(blk_cell BK101.out 1).trans rfl;have hcz6_2 : w5.cell? ⟨gb101,2,none⟩ = some (.slice A0_2 l0_2.length c0_2):=(blk_cell BK101.out 2).trans rfl;have hcz6_3 : w5.cell? ⟨gb101,3,none⟩ = some (.int .i64 a0_3):=(blk_cell BK101.out 3).trans rfl;have hcz6_4 : w5.cell? ⟨gb101,4,none⟩ = some (.slice A0_4 l0_4.length c0_4):=(blk_cell BK101.out 4).trans rfl;have hfz6_0:=blk_frozen BK101.out 0;have hfz6_1:=blk_frozen BK101.out 1;have hfz6_2:=blk_frozen BK101.out 2;have hfz6_3:=blk_frozen BK101.out 3;have hfz6_4:=blk_frozen BK101.out 4) | ((with_reducible refine gc (f:=97) rfl ?_);refine gl (some 8) Try.func97 #[.slice A0_0 l0_0.length c0_0,.int .i64 a1] ?_;(with_reducible refine (laws_szEntryS.calls _ _ l0_0 a1 t102 _ ?side1 ?side2 A3.out).mono ?_);(case side1=>exact rc (Kd.C_below HR0_0.out HB.out));(case side2=>exact HC0_0.out);rintro e w' ⟨rfl,⟨nd,rfl⟩⟩;refine ⟨_,rfl,?_⟩))
  go_ret
  exact ⟨by first | rfl | (simp [errW_none,errW_some] <;> rfl) | (simp [*,errW_none,errW_some] <;> rfl),rbx HB⟩
 rw [if_neg c4] at H
 have c4b0 : decide (t102 < 0) = false:=decide_eq_false c4
 clear c4
 replace H:=Option.bind_eq_some_iff.mp H
 obtain ⟨t103,A70,H⟩:=H
 try dsimp only at H
 have A7:=ak A70
 clear A70
 by_cases c8 : t103 < 0
 ·rw [if_pos c8] at H
  have c8b0 : decide (t103 < 0) = true:=decide_eq_true c8
  clear c8
  obtain rfl:=Option.some.inj H
  go_enter Try.func23,Try.ntmps23
  go_wp2_with (first | ((with_reducible refine gate_dst (N:=2) rfl ?_);refine box_event ?hg (N:=2) ?hd (cs:=#[.slice A0_0 l0_0.length c0_0,.slice A0_1 l0_1.length c0_1,.slice A0_2 l0_2.length c0_2,.int .i64 a0_3,.slice A0_4 l0_4.length c0_4]) (t:=45) ?hr ?_;(case hd=>rfl);(case hg=>rfl);(case hr=>first | (go_simp;done) | (go_simp;rfl));intro gb101 hg w9 hbox hb;have n_ : _∧_∧_∧_:=⟨kh HB hb,ak (hbox),kz HB hg,kz HB hg⟩;clear HB hb hbox hg;obtain ⟨HB,BK101,GW101,GE101⟩:=n_;have hcz10_0 : w9.cell? ⟨gb101,0,none⟩ = some (.slice A0_0 l0_0.length c0_0):=(blk_cell BK101.out 0).trans rfl;have hcz10_1 : w9.cell? ⟨gb101,1,none⟩ = some (.slice A0_1 l0_1.length c0_1):=(blk_cell BK101.out 1).trans rfl;have hcz10_2 : w9.cell? ⟨gb101,2,none⟩ = some (.slice A0_2 l0_2.length c0_2):=(blk_cell BK101.out 2).trans rfl;have hcz10_3 : w9.cell? ⟨gb101,3,none⟩ = some (.int .i64 a0_3):=(blk_cell BK101.out 3).trans rfl;have hcz10_4 : w9.cell? ⟨gb101,4,none⟩ = some (.slice A0_4 l0_4.length c0_4):=(blk_cell BK101.out 4).trans rfl;have hfz10_0:=blk_frozen BK101.out 0;have hfz10_1:=blk_frozen BK101.out 1;have hfz10_2:=blk_frozen BK101.out 2;have hfz10_3:=blk_frozen BK101.out 3;have hfz10_4:=blk_frozen BK101.out 4) | ((with_reducible refine gc (f:=97) rfl ?_);refine gl (some 8) Try.func97 #[.slice A0_0 l0_0.length c0_0,.int .i64 a1] ?_;(with_reducible refine (laws_szEntryS.calls _ _ l0_0 a1 t102 _ ?side1 ?side2 A3.out).mono ?_);(case side1=>exact rc (Kd.C_below HR0_0.out HB.out));(case side2=>exact HC0_0.out);rintro e w' ⟨rfl,⟨nd,rfl⟩⟩;refine ⟨_,rfl,?_⟩) | ((with_reducible refine gc (f:=98) rfl ?_);refine gl (some 14) Try.func98 #[.slice A0_1 l0_1.length c0_1,.int .i64 t102] ?_;(with_reducible refine (laws_szIntS.calls _ _ l0_1 t102 t103 _ ?side1 ?side2 A7.out).mono ?_);(case side1=>exact rc (Kd.C_below HR0_1.out (rb1 GE101.out HB.out)));(case side2=>exact HC0_1.out);rintro e w' ⟨rfl,⟨nd,rfl⟩⟩;refine ⟨_,rfl,?_⟩))
  go_ret
  exact ⟨by first | rfl | (simp [errW_none,errW_some] <;> rfl) | (simp [*,errW_none,errW_some] <;> rfl),rbx HB⟩
 rw [if_neg c8] at H
 have c8b0 : decide (t103 < 0) = false:=decide_eq_false c8
 clear c8
 replace H:=Option.bind_eq_some_iff.mp H
 obtain ⟨t104,A110,H⟩:=H
 try dsimp only at H
 have A11:=ak A110
 clear A110
 by_cases c12 : t104 < 0
 ·rw [if_pos c12] at H
  have c12b0 : decide (t104 < 0) = true:=decide_eq_true c12
  clear c12
  obtain rfl:=Option.some.inj H
  go_enter Try.func23,Try.ntmps23
  go_wp2_with (first | ((with_reducible refine gate_dst (N:=2) rfl ?_);refine box_event ?hg (N:=2) ?hd (cs:=#[.slice A0_0 l0_0.length c0_0,.slice A0_1 l0_1.length c0_1,.slice A0_2 l0_2.length c0_2,.int .i64 a0_3,.slice A0_4 l0_4.length c0_4]) (t:=45) ?hr ?_;(case hd=>rfl);(case hg=>rfl);(case hr=>first | (go_simp;done) | (go_simp;rfl));intro gb101 hg w13 hbox hb;have n_ : _∧_∧_∧_:=⟨kh HB hb,ak (hbox),kz HB hg,kz HB hg⟩;clear HB hb hbox hg;obtain ⟨HB,BK101,GW101,GE101⟩:=n_;have hcz14_0 : w13.cell? ⟨gb101,0,none⟩ = some (.slice A0_0 l0_0.length c0_0):=(blk_cell BK101.out 0).trans rfl;have hcz14_1 : w13.cell? ⟨gb101,1,none⟩ = some (.slice A0_1 l0_1.length c0_1):=(blk_cell BK101.out 1).trans rfl;have hcz14_2 : w13.cell? ⟨gb101,2,none⟩ = some (.slice A0_2 l0_2.length c0_2):=(blk_cell BK101.out 2).trans rfl;have hcz14_3 : w13.cell? ⟨gb101,3,none⟩ = some (.int .i64 a0_3):=(blk_cell BK101.out 3).trans rfl;have hcz14_4 : w13.cell? ⟨gb101,4,none⟩ = some (.slice A0_4 l0_4.length c0_4):=(blk_cell BK101.out 4).trans rfl;have hfz14_0:=blk_frozen BK101.out 0;have hfz14_1:=blk_frozen BK101.out 1;have hfz14_2:=blk_frozen BK101.out 2;have hfz14_3:=blk_frozen BK101.out 3;have hfz14_4:=blk_frozen BK101.out 4) | ((with_reducible refine gc (f:=97) rfl ?_);refine gl (some 8) Try.func97 #[.slice A0_0 l0_0.length c0_0,.int .i64 a1] ?_;(with_reducible refine (laws_szEntryS.calls _ _ l0_0 a1 t102 _ ?side1 ?side2 A3.out).mono ?_);(case side1=>exact rc (Kd.C_below HR0_0.out HB.out));(case side2=>exact HC0_0.out);rintro e w' ⟨rfl,⟨nd,rfl⟩⟩;refine ⟨_,rfl,?_⟩) | ((with_reducible refine gc (f:=98) rfl ?_);refine gl (some 14) Try.func98 #[.slice A0_1 l0_1.length c0_1,.int .i64 t102] ?_;(with_reducible refine (laws_szIntS.calls _ _ l0_1 t102 t103 _ ?side1 ?side2 A7.out).mono ?_);(case side1=>exact rc (Kd.C_below HR0_1.out (rb1 GE101.out HB.out)));(case side2=>exact HC0_1.out);rintro e w' ⟨rfl,⟨nd,rfl⟩⟩;refine ⟨_,rfl,?_⟩) | ((with_reducible refine gc (f:=99) rfl ?_);refine gl (some 20) Try.func99 #[.slice A0_2 l0_2.length c0_2,.int .i64 t103] ?_;(with_reducible refine (laws_szEarlyS.calls _ _ l0_2 t103 t104 _ ?side1 ?side2 A11.out).mono ?_);(case side1=>exact rc (Kd.C_below HR0_2.out (rb1 GE101.out HB.out)));(case side2=>exact HC0_2.out);rintro e w' ⟨rfl,⟨nd,rfl⟩⟩;refine ⟨_,rfl,?_⟩))
  go_ret
  exact ⟨by first | rfl | (simp [errW_none,errW_some] <;> rfl) | (simp [*,errW_none,errW_some] <;> rfl),rbx HB⟩
 rw [if_neg c12] at H
 have c12b0 : decide (t104 < 0) = false:=decide_eq_false c12
 clear c12
 replace H:=Option.bind_eq_some_iff.mp H
 obtain ⟨t105,A150,H⟩:=H
 try dsimp only at H
 have A15:=ak A150
 clear A150
 by_cases c16 : t105 < 0
 ·rw [if_pos c16] at H
  have c16b0 : decide (t105 < 0) = true:=decide_eq_true c16
  clear c16
  obtain rfl:=Option.some.inj H
  go_enter Try.func23,Try.ntmps23
  go_wp2_with (first | ((with_reducible refine gate_dst (N:=2) rfl ?_);refine box_event ?hg (N:=2) ?hd (cs:=#[.slice A0_0 l0_0.length c0_0,.slice A0_1 l0_1.length c0_1,.slice A0_2 l0_2.length c0_2,.int .i64 a0_3,.slice A0_4 l0_4.length c0_4]) (t:=45) ?hr ?_;(case hd=>rfl);(case hg=>rfl);(case hr=>first | (go_simp;done) | (go_simp;rfl));intro gb101 hg w17 hbox hb;have n_ : _∧_∧_∧_:=⟨kh HB hb,ak (hbox),kz HB hg,kz HB hg⟩;clear HB hb hbox hg;obtain ⟨HB,BK101,GW101,GE101⟩:=n_;have hcz18_0 : w17.cell? ⟨gb101,0,none⟩ = some (.slice A0_0 l0_0.length c0_0):=(blk_cell BK101.out 0).trans rfl;have hcz18_1 : w17.cell? ⟨gb101,1,none⟩ = some (.slice A0_1 l0_1.length c0_1):=(blk_cell BK101.out 1).trans rfl;have hcz18_2 : w17.cell? ⟨gb101,2,none⟩ = some (.slice A0_2 l0_2.length c0_2):=(blk_cell BK101.out 2).trans rfl;have hcz18_3 : w17.cell? ⟨gb101,3,none⟩ = some (.int .i64 a0_3):=(blk_cell BK101.out 3).trans rfl;have hcz18_4 : w17.cell? ⟨gb101,4,none⟩ = some (.slice A0_4 l0_4.length c0_4):=(blk_cell BK101.out 4).trans rfl;have hfz18_0:=blk_frozen BK101.out 0;have hfz18_1:=blk_frozen BK101.out 1;have hfz18_2:=blk_frozen BK101.out 2;have hfz18_3:=blk_frozen BK101.out 3;have hfz18_4:=blk_frozen BK101.out 4) | ((with_reducible refine gc (f:=97) rfl ?_);refine gl (some 8) Try.func97 #[.slice A0_0 l0_0.length c0_0,.int .i64 a1] ?_;(with_reducible refine (laws_szEntryS.calls _ _ l0_0 a1 t102 _ ?side1 ?side2 A3.out).mono ?_);(case side1=>exact rc (Kd.C_below HR0_0.out HB.out));(case side2=>exact HC0_0.out);rintro e w' ⟨rfl,⟨nd,rfl⟩⟩;refine ⟨_,rfl,?_⟩) | ((with_reducible refine gc (f:=98) rfl ?_);refine gl (some 14) Try.func98 #[.slice A0_1 l0_1.length c0_1,.int .i64 t102] ?_;(with_reducible refine (laws_szIntS.calls _ _ l0_1 t102 t103 _ ?side1 ?side2 A7.out).mono ?_);(case side1=>exact rc (Kd.C_below HR0_1.out (rb1 GE101.out HB.out)));(case side2=>exact HC0_1.out);rintro e w' ⟨rfl,⟨nd,rfl⟩⟩;refine ⟨_,rfl,?_⟩) | ((with_reducible refine gc (f:=99) rfl ?_);refine gl (some 20) Try.func99 #[.slice A0_2 l0_2.length c0_2,.int .i64 t103] ?_;(with_reducible refine (laws_szEarlyS.calls _ _ l0_2 t103 t104 _ ?side1 ?side2 A11.out).mono ?_);(case side1=>exact rc (Kd.C_below HR0_2.out (rb1 GE101.out HB.out)));(case side2=>exact HC0_2.out);rintro e w' ⟨rfl,⟨nd,rfl⟩⟩;refine ⟨_,rfl,?_⟩) | ((with_reducible refine gc (f:=98) rfl ?_);refine gl (some 26) Try.func98 #[.slice A0_4 l0_4.length c0_4,.int .i64 t104] ?_;(with_reducible refine (laws_szIntS.calls _ _ l0_4 t104 t105 _ ?side1 ?side2 A15.out).mono ?_);(case side1=>exact rc (Kd.C_below HR0_4.out (rb1 GE101.out HB.out)));(case side2=>exact HC0_4.out);rintro e w' ⟨rfl,⟨nd,rfl⟩⟩;refine ⟨_,rfl,?_⟩))
  go_ret
  exact ⟨by first | rfl | (simp [errW_none,errW_some] <;> rfl) | (simp [*,errW_none,errW_some] <;> rfl),rbx HB⟩
 rw [if_neg c16] at H
 have c16b0 : decide (t105 < 0) = false:=decide_eq_false c16
 clear c16
 obtain rfl:=Option.some.inj H
 go_enter Try.func23,Try.ntmps23
 go_wp2_with (first | ((with_reducible refine gate_dst (N:=2) rfl ?_);refine box_event ?hg (N:=2) ?hd (cs:=#[.slice A0_0 l0_0.length c0_0,.slice A0_1 l0_1.length c0_1,.slice A0_2 l0_2.length c0_2,.int .i64 a0_3,.slice A0_4 l0_4.length c0_4]) (t:=45) ?hr ?_;(case hd=>rfl);(case hg=>rfl);(case hr=>first | (go_simp;done) | (go_simp;rfl));intro gb101 hg w19 hbox hb;have n_ : _∧_∧_∧_:=⟨kh HB hb,ak (hbox),kz HB hg,kz HB hg⟩;clear HB hb hbox hg;obtain ⟨HB,BK101,GW101,GE101⟩:=n_;have hcz20_0 : w19.cell? ⟨gb101,0,none⟩ = some (.slice A0_0 l0_0.length c0_0):=(blk_cell BK101.out 0).trans rfl;have hcz20_1 : w19.cell? ⟨gb101,1,none⟩ = some (.slice A0_1 l0_1.length c0_1):=(blk_cell BK101.out 1).trans rfl;have hcz20_2 : w19.cell? ⟨gb101,2,none⟩ = some (.slice A0_2 l0_2.length c0_2):=(blk_cell BK101.out 2).trans rfl;have hcz20_3 : w19.cell? ⟨gb101,3,none⟩ = some (.int .i64 a0_3):=(blk_cell BK101.out 3).trans rfl;have hcz20_4 : w19.cell? ⟨gb101,4,none⟩ = some (.slice A0_4 l0_4.length c0_4):=(blk_cell BK101.out 4).trans rfl;have hfz20_0:=blk_frozen BK101.out 0;have hfz20_1:=blk_frozen BK101.out 1;have hfz20_2:=blk_frozen BK101.out 2;have hfz20_3:=blk_frozen BK101.out 3;have hfz20_4:=blk_frozen BK101.out 4) | ((with_reducible refine gc (f:=97) rfl ?_);refine gl (some 8) Try.func97 #[.slice A0_0 l0_0.length c0_0,.int .i64 a1] ?_;(with_reducible refine (laws_szEntryS.calls _ _ l0_0 a1 t102 _ ?side1 ?side2 A3.out).mono ?_);(case side1=>exact rc (Kd.C_below HR0_0.out HB.out));(case side2=>exact HC0_0.out);rintro e w' ⟨rfl,⟨nd,rfl⟩⟩;refine ⟨_,rfl,?_⟩) | ((with_reducible refine gc (f:=98) rfl ?_);refine gl (some 14) Try.func98 #[.slice A0_1 l0_1.length c0_1,.int .i64 t102] ?_;(with_reducible refine (laws_szIntS.calls _ _ l0_1 t102 t103 _ ?side1 ?side2 A7.out).mono ?_);(case side1=>exact rc (Kd.C_below HR0_1.out (rb1 GE101.out HB.out)));(case side2=>exact HC0_1.out);rintro e w' ⟨rfl,⟨nd,rfl⟩⟩;refine ⟨_,rfl,?_⟩) | ((with_reducible refine gc (f:=99) rfl ?_);refine gl (some 20) Try.func99 #[.slice A0_2 l0_2.length c0_2,.int .i64 t103] ?_;(with_reducible refine (laws_szEarlyS.calls _ _ l0_2 t103 t104 _ ?side1 ?side2 A11.out).mono ?_);(case side1=>exact rc (Kd.C_below HR0_2.out (rb1 GE101.out HB.out)));(case side2=>exact HC0_2.out);rintro e w' ⟨rfl,⟨nd,rfl⟩⟩;refine ⟨_,rfl,?_⟩) | ((with_reducible refine gc (f:=98) rfl ?_);refine gl (some 26) Try.func98 #[.slice A0_4 l0_4.length c0_4,.int .i64 t104] ?_;(with_reducible refine (laws_szIntS.calls _ _ l0_4 t104 t105 _ ?side1 ?side2 A15.out).mono ?_);(case side1=>exact rc (Kd.C_below HR0_4.out (rb1 GE101.out HB.out)));(case side2=>exact HC0_4.out);rintro e w' ⟨rfl,⟨nd,rfl⟩⟩;refine ⟨_,rfl,?_⟩))
 go_ret
 exact ⟨by first | rfl | (simp [errW_none,errW_some] <;> rfl) | (simp [*,errW_none,errW_some] <;> rfl),rbx HB⟩

/-! ### laws_toItem: function 163 -/
def laws_toItem.f (a0_0 : Int) (a0_1 : Int) (a0_2 : Int) (a0_3 : Int) : Option (Int × Int × Int × Int):=some (a0_0,a0_1,a0_2,a0_3)
set_option maxHeartbeats 8000000 in
theorem laws_toItem.calls (a0_0 : Int) (a0_1 : Int) (a0_2 : Int) (a0_3 : Int) (r1 : Int) (r2 : Int) (r3 : Int) (r4 : Int) (w : World) (h : laws_toItem.f a0_0 a0_1 a0_2 a0_3 = some (r1,r2,r3,r4)) :
  Calls Try.prog 163 #[.agg #[.int .i64 a0_0,.int .i64 a0_1,.int .i64 a0_2,.int .i64 a0_3]] w fun e w'=>e = .returned (.agg #[.int .i64 r1,.int .i64 r2,.int .i64 r3,.int .i64 r4])∧Below w.heap.size w w':=by
 have hu105:=Try.underlying105
 have hu34:=Try.underlying34
 have HB:=ak (Below.refl w.heap.size w)
 have H : (some (a0_0,a0_1,a0_2,a0_3)) = some (r1,r2,r3,r4):=h
 clear h
 simp only [Option.some.injEq,Prod.mk.injEq] at H
 obtain ⟨rfl,rfl,rfl,rfl⟩:=H
 go_enter Try.func163,Try.ntmps163
 go_wp2_with (first | ((with_reducible refine gate_dst (N:=1) rfl ?_);refine box_event ?hg (N:=1) ?hd (cs:=#[.int .i64 a0_0,.int .i64 a0_1,.int .i64 a0_2,.int .i64 a0_3]) (t:=105) ?hr ?_;(case hd=>rfl);(case hg=>rfl);(case hr=>first | (go_simp;done) | (go_simp;rfl));intro gb106 hg w2 hbox hb;have n_ : _∧_∧_∧_:=⟨kh HB hb,ak (hbox),kz HB hg,kz HB hg⟩;clear HB hb hbox hg;obtain ⟨HB,BK106,GW106,GE106⟩:=n_) | ((with_reducible refine gate_dst (N:=2) rfl ?_);refine box_event ?hg (N:=2) ?hd (cs:=#[.int .i64 0,.int .i64 0,.int .i64 0,.int .i64 0]) (t:=34) ?hr ?_;(case hd=>rfl);(case hg=>rfl);(case hr=>first | (go_simp;done) | (go_simp;rfl));intro gb107 hg w3 hbox hb;have n_ : _∧_∧_∧_∧_∧_∧_:=⟨kb BK106 hb,kh HB hb,ak (hbox),kz HB hg,kz HB hg,nl BK106 hg,ng BK106 hg⟩;clear BK106 HB hb hbox hg;obtain ⟨BK106,HB,BK107,GW107,GE107,NB106_107,NB107_106⟩:=n_) | ((with_reducible refine gate_dst (N:=3) rfl ?_);refine box_event ?hg (N:=3) ?hd (cs:=#[.int .i64 0,.int .i64 0,.int .i64 0,.int .i64 0]) (t:=34) ?hr ?_;(case hd=>rfl);(case hg=>rfl);(case hr=>first | (go_simp;done) | (go_simp;rfl));intro gb108 hg w4 hbox hb;have n_ : _∧_∧_∧_∧_∧_∧_∧_∧_∧_:=⟨kb BK106 hb,kb BK107 hb,kh HB hb,ak (hbox),kz HB hg,kz HB hg,nl BK106 hg,ng BK106 hg,nl BK107 hg,ng BK107 hg⟩;clear BK106 BK107 HB hb hbox hg;obtain ⟨BK106,BK107,HB,BK108,GW108,GE108,NB106_108,NB108_106,NB107_108,NB108_107⟩:=n_;have hnb5:=NB106_107.out;have hnc5:=NB107_106.out;have hnb6:=NB106_108.out;have hnc6:=NB108_106.out;have hcz7_0 : w4.cell? ⟨gb106,0,none⟩ = some (.int .i64 a0_0):=(blk_cell BK106.out 0).trans rfl;have hcz7_1 : w4.cell? ⟨gb106,1,none⟩ = some (.int .i64 a0_1):=(blk_cell BK106.out 1).trans rfl;have hcz7_2 : w4.cell? ⟨gb106,2,none⟩ = some (.int .i64 a0_2):=(blk_cell BK106.out 2).trans rfl;have hcz7_3 : w4.cell? ⟨gb106,3,none⟩ = some (.int .i64 a0_3):=(blk_cell BK106.out 3).trans rfl;have hfz7_0:=blk_frozen BK106.out 0;have hfz7_1:=blk_frozen BK106.out 1;have hfz7_2:=blk_frozen BK106.out 2;have hfz7_3:=blk_frozen BK106.out 3;have hnb8:=NB108_107.out;have hnc8:=NB107_108.out;have hcz9_0 : w4.cell? ⟨gb108,0,none⟩ = some (.int .i64 0):=(blk_cell BK108.out 0).trans rfl;have hcz9_1 : w4.cell? ⟨gb108,1,none⟩ = some (.int .i64 0):=(blk_cell BK108.out 1).trans rfl;have hcz9_2 : w4.cell? ⟨gb108,2,none⟩ = some (.int .i64 0):=(blk_cell BK108.out 2).trans rfl;have hcz9_3 : w4.cell? ⟨gb108,3,none⟩ = some (.int .i64 0):=(blk_cell BK108.out 3).trans rfl;have hfz9_0:=blk_frozen BK108.out 0;have hfz9_1:=blk_frozen BK108.out 1;have hfz9_2:=blk_frozen BK108.out 2;have hfz9_3:=blk_frozen BK108.out 3;have hcz10_0 : w4.cell? ⟨gb107,0,none⟩ = some (.int .i64 0):=(blk_cell BK107.out 0).trans rfl;have hcz10_1 : w4.cell? ⟨gb107,1,none⟩ = some (.int .i64 0):=(blk_cell BK107.out 1).trans rfl;have hcz10_2 : w4.cell? ⟨gb107,2,none⟩ = some (.int .i64 0):=(blk_cell BK107.out 2).trans rfl;have hcz10_3 : w4.cell? ⟨gb107,3,none⟩ = some (.int .i64 0):=(blk_cell BK107.out 3).trans rfl;have hfz10_0:=blk_frozen BK107.out 0;have hfz10_1:=blk_frozen BK107.out 1;have hfz10_2:=blk_frozen BK107.out 2;have hfz10_3:=blk_frozen BK107.out 3))
 refine bodyPost_ret (results_cell_row rfl _ _ gb107 34 #[.int .i64 a0_0,.int .i64 a0_1,.int .i64 a0_2,.int .i64 a0_3] (0,0) _ rfl (kq BK107) Try.underlying34 rfl (by kernel_rfl)) rfl ?_
 exact ⟨by first | rfl | (simp [errW_none,errW_some] <;> rfl) | (simp [*,errW_none,errW_some] <;> rfl),rbx HB⟩

/-! ### laws_toEntry: function 169 -/
def laws_toEntry.f (a0_0 : Int) (a0_1 : Int) (a0_2 : Int) (a0_3 : Int) (a0_4 : Int) (a0_5 : Int) : Option (Int × Int × Int × Int × Int × Int):=(laws_toItem.f a0_2 a0_3 a0_4 a0_5).bind fun bt112=>(some (a0_0,a0_1,bt112.1,bt112.2.1,bt112.2.2.1,bt112.2.2.2))
set_option maxHeartbeats 8000000 in
theorem laws_toEntry.calls (a0_0 : Int) (a0_1 : Int) (a0_2 : Int) (a0_3 : Int) (a0_4 : Int) (a0_5 : Int) (r1 : Int) (r2 : Int) (r3 : Int) (r4 : Int) (r5 : Int) (r6 : Int) (w : World) (h : laws_toEntry.f a0_0 a0_1 a0_2 a0_3 a0_4 a0_5 = some (r1,r2,r3,r4,r5,r6)) :
  Calls Try.prog 169 #[.agg #[.int .i64 a0_0,.int .i64 a0_1,.int .i64 a0_2,.int .i64 a0_3,.int .i64 a0_4,.int .i64 a0_5]] w fun e w'=>e = .returned (.agg #[.int .i64 r1,.int .i64 r2,.int .i64 r3,.int .i64 r4,.int .i64 r5,.int .i64 r6])∧Below w.heap.size w w':=by
 have hu175:=Try.underlying175
 have hu134:=Try.underlying134
 have hu105:=Try.underlying105
 have hu34:=Try.underlying34
 have HB:=ak (Below.refl w.heap.size w)
 have H:=h
 clear h
 unfold laws_toEntry.f at H
 replace H:=Option.bind_eq_some_iff.mp H
 obtain ⟨⟨t112,t113,t114,t115⟩,A20,H⟩:=H
 try dsimp only at H
 have A2:=ak A20
 clear A20
 simp only [Option.some.injEq,Prod.mk.injEq] at H
 obtain ⟨rfl,rfl,rfl,rfl,rfl,rfl⟩:=H
 go_enter Try.func169,Try.ntmps169
 go_wp2_with (first | ((with_reducible refine gate_dst (N:=1) rfl ?_);refine box_event ?hg (N:=1) ?hd (cs:=#[.int .i64 a0_0,.int .i64 a0_1,.int .i64 a0_2,.int .i64 a0_3,.int .i64 a0_4,.int .i64 a0_5]) (t:=175) ?hr ?_;(case hd=>rfl);(case hg=>rfl);(case hr=>first | (go_simp;done) | (go_simp;rfl));intro gb109 hg w3 hbox hb;have n_ : _∧_∧_∧_:=⟨kh HB hb,ak (hbox),kz HB hg,kz HB hg⟩;clear HB hb hbox hg;obtain ⟨HB,BK109,GW109,GE109⟩:=n_) | ((with_reducible refine gate_dst (N:=2) rfl ?_);refine box_event ?hg (N:=2) ?hd (cs:=#[.int .i64 0,.int .i64 0,.int .i64 0,.int .i64 0,.int .i64 0,.int .i64 0]) (t:=134) ?hr ?_;(case hd=>rfl);(case hg=>rfl);(case hr=>first | (go_simp;done) | (go_simp;rfl));intro gb110 hg w4 hbox hb;have n_ : _∧_∧_∧_∧_∧_∧_:=⟨kb BK109 hb,kh HB hb,ak (hbox),kz HB hg,kz HB hg,nl BK109 hg,ng BK109 hg⟩;clear BK109 HB hb hbox hg;obtain ⟨BK109,HB,BK110,GW110,GE110,NB109_110,NB110_109⟩:=n_) | ((with_reducible refine gate_dst (N:=3) rfl ?_);refine box_event ?hg (N:=3) ?hd (cs:=#[.int .i64 0,.int .i64 0,.int .i64 0,.int .i64 0,.int .i64 0,.int .i64 0]) (t:=134) ?hr ?_;(case hd=>rfl);(case hg=>rfl);(case hr=>first | (go_simp;done) | (go_simp;rfl));intro gb111 hg w5 hbox hb;have n_ : _∧_∧_∧_∧_∧_∧_∧_∧_∧_:=⟨kb BK109 hb,kb BK110 hb,kh HB hb,ak (hbox),kz HB hg,kz HB hg,nl BK109 hg,ng BK109 hg,nl BK110 hg,ng BK110 hg⟩;clear BK109 BK110 HB hb hbox hg;obtain ⟨BK109,BK110,HB,BK111,GW111,GE111,NB109_111,NB111_109,NB110_111,NB111_110⟩:=n_;have hnb6:=NB109_110.out;have hnc6:=NB110_109.out;have hnb7:=NB109_111.out;have hnc7:=NB111_109.out;have hcz8_0 : w5.cell? ⟨gb109,0,none⟩ = some (.int .i64 a0_0):=(blk_cell BK109.out 0).trans rfl;have hcz8_1 : w5.cell? ⟨gb109,1,none⟩ = some (.int .i64 a0_1):=(blk_cell BK109.out 1).trans rfl;have hcz8_2 : w5.cell? ⟨gb109,2,none⟩ = some (.int .i64 a0_2):=(blk_cell BK109.out 2).trans rfl;have hcz8_3 : w5.cell? ⟨gb109,3,none⟩ = some (.int .i64 a0_3):=(blk_cell BK109.out 3).trans rfl;have hcz8_4 : w5.cell? ⟨gb109,4,none⟩ = some (.int .i64 a0_4):=(blk_cell BK109.out 4).trans rfl;have hcz8_5 : w5.cell? ⟨gb109,5,none⟩ = some (.int .i64 a0_5):=(blk_cell BK109.out 5).trans rfl;have hfz8_0:=blk_frozen BK109.out 0;have hfz8_1:=blk_frozen BK109.out 1;have hfz8_2:=blk_frozen BK109.out 2;have hfz8_3:=blk_frozen BK109.out 3;have hfz8_4:=blk_frozen BK109.out 4;have hfz8_5:=blk_frozen BK109.out 5;have hnb9:=NB111_110.out;have hnc9:=NB110_111.out;have hcz10_0 : w5.cell? ⟨gb111,0,none⟩ = some (.int .i64 0):=(blk_cell BK111.out 0).trans rfl;have hcz10_1 : w5.cell? ⟨gb111,1,none⟩ = some (.int .i64 0):=(blk_cell BK111.out 1).trans rfl;have hcz10_2 : w5.cell? ⟨gb111,2,none⟩ = some (.int .i64 0):=(blk_cell BK111.out 2).trans rfl;have hcz10_3 : w5.cell? ⟨gb111,3,none⟩ = some (.int .i64 0):=(blk_cell BK111.out 3).trans rfl;have hcz10_4 : w5.cell? ⟨gb111,4,none⟩ = some (.int .i64 0):=(blk_cell BK111.out 4).trans rfl;have hcz10_5 : w5.cell? ⟨gb111,5,none⟩ = some (.int .i64 0):=(blk_cell BK111.out 5).trans rfl;have hfz10_0:=blk_frozen BK111.out 0;have hfz10_1:=blk_frozen BK111.out 1;have hfz10_2:=blk_frozen BK111.out 2;have hfz10_3:=blk_frozen BK111.out 3;have hfz10_4:=blk_frozen BK111.out 4;have hfz10_5:=blk_frozen BK111.out 5) | ((with_reducible refine gc (f:=163) rfl ?_);refine gl (some 12) Try.func163 #[.agg #[.int .i64 a0_2,.int .i64 a0_3,.int .i64 a0_4,.int .i64 a0_5]] ?_;(with_reducible refine (laws_toItem.calls a0_2 a0_3 a0_4 a0_5 t112 t113 t114 t115 _ A2.out).mono ?_);rintro e w11 ⟨rfl,hb⟩;refine ⟨_,rfl,?_⟩;have n_ : _∧_∧_∧_:=⟨kp #[.int .i64 a0_0,.int .i64 a0_1,.int .i64 a0_2,.int .i64 a0_3,.int .i64 a0_4,.int .i64 a0_5] BK109 hb,kp #[.int .i64 0,.int .i64 0,.int .i64 0,.int .i64 0,.int .i64 0,.int .i64 0] BK110 hb,kp #[.int .i64 a0_0,.int .i64 a0_1,.int .i64 0,.int .i64 0,.int .i64 0,.int .i64 0] BK111 hb,kh HB hb⟩;clear BK109 BK110 BK111 HB;obtain ⟨BK109,BK110,BK111,HB⟩:=n_;(try clear hb);(try clear hb2);(try clear hk);(try clear hi);have hcz12_0 : w11.cell? ⟨gb111,0,none⟩ = some (.int .i64 a0_0):=(blk_cell BK111.out 0).trans rfl;have hcz12_1 : w11.cell? ⟨gb111,1,none⟩ = some (.int .i64 a0_1):=(blk_cell BK111.out 1).trans rfl;have hcz12_2 : w11.cell? ⟨gb111,2,none⟩ = some (.int .i64 0):=(blk_cell BK111.out 2).trans rfl;have hcz12_3 : w11.cell? ⟨gb111,3,none⟩ = some (.int .i64 0):=(blk_cell BK111.out 3).trans rfl;have hcz12_4 : w11.cell? ⟨gb111,4,none⟩ = some (.int .i64 0):=(blk_cell BK111.out 4).trans rfl;have hcz12_5 : w11.cell? ⟨gb111,5,none⟩ = some (.int .i64 0):=(blk_cell BK111.out 5).trans rfl;have hfz12_0:=blk_frozen BK111.out 0;have hfz12_1:=blk_frozen BK111.out 1;have hfz12_2:=blk_frozen BK111.out 2;have hfz12_3:=blk_frozen BK111.out 3;have hfz12_4:=blk_frozen BK111.out 4;have hfz12_5:=blk_frozen BK111.out 5;have hcz13_0 : w11.cell? ⟨gb110,0,none⟩ = some (.int .i64 0):=(blk_cell BK110.out 0).trans rfl;have hcz13_1 : w11.cell? ⟨gb110,1,none⟩ = some (.int .i64 0):=(blk_cell BK110.out 1).trans rfl;have hcz13_2 : w11.cell? ⟨gb110,2,none⟩ = some (.int .i64 0):=(blk_cell BK110.out 2).trans rfl;have hcz13_3 : w11.cell? ⟨gb110,3,none⟩ = some (.int .i64 0):=(blk_cell BK110.out 3).trans rfl;have hcz13_4 : w11.cell? ⟨gb110,4,none⟩ = some (.int .i64 0):=(blk_cell BK110.out 4).trans rfl;have hcz13_5 : w11.cell? ⟨gb110,5,none⟩ = some (.int .i64 0):=(blk_cell BK110.out 5).trans rfl;have hfz13_0:=blk_frozen BK110.out 0;have hfz13_1:=blk_frozen BK110.out 1;have hfz13_2:=blk_frozen BK110.out 2;have hfz13_3:=blk_frozen BK110.out 3;have hfz13_4:=blk_frozen BK110.out 4;have hfz13_5:=blk_frozen BK110.out 5))
 refine bodyPost_ret (results_cell_row rfl _ _ gb110 134 #[.int .i64 a0_0,.int .i64 a0_1,.int .i64 t112,.int .i64 t113,.int .i64 t114,.int .i64 t115] (0,0) _ rfl (kq BK110) Try.underlying134 rfl (by kernel_rfl)) rfl ?_
 exact ⟨by first | rfl | (simp [errW_none,errW_some] <;> rfl) | (simp [*,errW_none,errW_some] <;> rfl),rbx HB⟩

/-! ### laws_toEntryS: function 104 -/
def laws_toEntryS.l0 : Nat→List (S175)→List (S134)→Int→Option ((List (S134)))
 | 0,_,_,_=>none
 | k + 1,x0,x3,x4=>if x4 < (x0.length : Int) then (if 0 ≤ x4 then ((laws_toEntry.f ((rd_T175 x0 x4).f0) ((rd_T175 x0 x4).f1) ((rd_T175 x0 x4).f2.f0) ((rd_T175 x0 x4).f2.f1) ((rd_T175 x0 x4).f2.f2) ((rd_T175 x0 x4).f2.f3)).bind fun bt120=>(if x4 < (x3.length : Int) then (laws_toEntryS.l0 k x0 (x3.set (x4 : Int).toNat (⟨bt120.1,bt120.2.1,(⟨bt120.2.2.1,bt120.2.2.2.1,bt120.2.2.2.2.1,bt120.2.2.2.2.2⟩ : S34)⟩ : S134)) (wrap64 (x4 + 1))) else (none))) else (none)) else (some x3)
def laws_toEntryS.f (k : Nat) (l0 : List (S175)) : Option ((List (S134))):=if 0 ≤ (l0.length : Int) then (if ((l0.length : Int) : Int).toNat ≤ 5864062014805 then (laws_toEntryS.l0 k l0 (List.replicate ((l0.length : Int) : Int).toNat z134) 0) else (none)) else (none)
theorem laws_toEntryS.mono_l : ∀ k,(∀ y0 y1 y2,LeO (laws_toEntryS.l0 k y0 y1 y2) (laws_toEntryS.l0 (k + 1) y0 y1 y2))
 | 0=>fun _ _ _ r h=>by simp [laws_toEntryS.l0] at h
 | k + 1=>by
  have ih0:=laws_toEntryS.mono_l k
  ·intro y0 y1 y2
   unfold laws_toEntryS.l0
   repeat' first
   | (with_reducible apply ih0)
   | (with_reducible exact LeO.refl _)
   | (with_reducible exact LeO.none _)
   | (with_reducible refine LeO.ite ?_ ?_)
   | (with_reducible refine LeO.bind ?_ (fun _=>?_))
   | apply ih0
   | exact LeO.none _
   | refine LeO.ite ?_ ?_
   | refine LeO.bind ?_ (fun _=>?_)
theorem laws_toEntryS.mono : ∀ a0 k,LeO (laws_toEntryS.f k a0) (laws_toEntryS.f (k + 1) a0):=by
 intro a0 k
 have ih0:=laws_toEntryS.mono_l k
 unfold laws_toEntryS.f
 repeat' first
   | (with_reducible apply ih0)
   | (with_reducible exact LeO.refl _)
   | (with_reducible exact LeO.none _)
   | (with_reducible refine LeO.ite ?_ ?_)
   | (with_reducible refine LeO.bind ?_ (fun _=>?_))
   | apply ih0
   | exact LeO.none _
   | refine LeO.ite ?_ ?_
   | refine LeO.bind ?_ (fun _=>?_)
set_option maxHeartbeats 8000000 in
theorem laws_toEntryS.calls (k : Nat) (A0 : Option Addr) (c0 : Nat) (l0 : List (S175)) (r : List (S134)) (w : World) (hr0 : Kd.C k175 w A0 l0.length l0) (hc0 : l0.length ≤ c0) (h : laws_toEntryS.f k l0 = some r) :
  Calls Try.prog 104 #[.slice A0 l0.length c0] w fun e w'=>∃ v0_ : Value,e = .returned (v0_)∧Kd.R k134 134 w' w.heap.size (fun _=>True) v0_ r∧Below w.heap.size w w':=by
 have hu175:=Try.underlying175
 have hu134:=Try.underlying134
 have HR0:=ak hr0
 have HC0:=ak hc0
 clear hr0 hc0
 have HB:=ak (Below.refl w.heap.size w)
 have H:=h
 clear h
 unfold laws_toEntryS.f at H
 by_cases c2 : 0 ≤ (l0.length : Int)
 rotate_left
 ·rw [if_neg c2] at H
  exact absurd H (by simp)
 rw [if_pos c2] at H
 have c2b0:=eq_true c2
 have c2b1 : decide (0 ≤ (l0.length : Int)) = true:=decide_eq_true c2
 clear c2
 by_cases c3 : ((l0.length : Int) : Int).toNat ≤ 5864062014805
 rotate_left
 ·rw [if_neg c3] at H
  exact absurd H (by simp)
 rw [if_pos c3] at H
 have c3b0:=eq_true c3
 have c3b1 : decide (((l0.length : Int) : Int).toNat ≤ 5864062014805) = true:=decide_eq_true c3
 clear c3
 obtain ⟨y116,hy116⟩ : ∃ y_ : List (S134),y_ = (List.replicate ((l0.length : Int) : Int).toNat z134):=⟨_,rfl⟩
 replace H : (laws_toEntryS.l0 k l0 y116 0) = some r:=by first | (rw [hy116];with_reducible exact H) | (have H2_:=(Option.bind_some _ _).symm.trans H;rw [hy116];with_reducible exact H2_) | (have H2_:=(Option.bind_some _ _).symm.trans H;with_reducible exact H2_) | with_reducible exact H | (rw [hy116];exact H) | exact H
 have Ny116:=ak hy116
 clear hy116
 have H':=ak H
 clear H
 go_enter Try.func104,Try.ntmps104
 go_wp2_with (first | ((with_reducible refine gate_dst (N:=7) rfl ?_);refine Kd.R_make k134 _ 134 rfl (N:=7) rfl 48 _ _ rfl (l0.length : Int) rfl rfl Try.underlying48 (.agg #[(.int .i64 0),(.int .i64 0),(.int .i64 0),(.int .i64 0),(.int .i64 0),(.int .i64 0)]) 48 info134 rfl (by decide) (by omega) z134 (ok:=fun _=>True) (okp:=fun _=>True) (k134_mkM _ _ _ z134 ) (fun _ hk=>hk) trivial (of_decide_eq_true (by first | (with_reducible assumption) | assumption)) (Nat.le_trans (Nat.mul_le_mul_right _ (of_decide_eq_true (by first | (with_reducible assumption) | assumption) : (l0.length : Int).toNat ≤ 5864062014805)) (by omega)) (Below.refl _ _) (Nat.le_refl _) ?_;intro v117 w4 ho5 hb hg_ hnew_;clear hg_ hnew_;(first | rw [← Ny116.out] at ho5 | (simp only [Int.reduceToNat] at ho5;rw [← Ny116.out] at ho5));have n_ : _∧_:=⟨kl ho5 HB,kh HB hb⟩;clear HB hb ho5;obtain ⟨HO118,HB⟩:=n_))
 go_loopg [4] k (fun kq v4 w'=>∃ (x3_1 : List (S134)) (x4_1 : Int),v4 = .int .i64 x4_1∧Aside0 (laws_toEntryS.l0 kq l0 x3_1 x4_1 = some r)∧Aside0 (kq ≤ k)∧Aside0 (Kd.R k134 134 w' w.heap.size (fun _=>True) v117 x3_1)∧Aside0 (Below w.heap.size w w'))
 case atStart=>exact ⟨(y116),(0),(by first | rfl | (simp;done) | (simp [*];done)),H',⟨Nat.le_refl _⟩,⟨rr HO118.out⟩,⟨rbx HB⟩⟩
 case round =>
  clear H'
  try clear c1
  try clear c2
  try clear c2b0
  try clear c2b1
  try clear p2
  try clear c3
  try clear c3b0
  try clear c3b1
  obtain ⟨x3_1,x4_1,rfl,HA,HK1,HO_3,HB⟩:=hrel
  cases gk with
  | zero=>exact absurd HA.out (by simp [laws_toEntryS.l0])
  | succ k1 =>
   have H:=HA.out
   clear HA
   simp only [laws_toEntryS.l0] at H
   by_cases c6 : x4_1 < (l0.length : Int)
   rotate_left
   ·rw [if_neg c6] at H
    have c6b0 : decide (x4_1 < (l0.length : Int)) = false:=decide_eq_false c6
    clear c6
    obtain rfl:=Option.some.inj H
    go_wp2
    go_ret
    exact ⟨_,by first | rfl | (simp [errW_none,errW_some] <;> rfl) | (simp [*,errW_none,errW_some] <;> rfl),rr HO_3.out,rbx HB⟩
   rw [if_pos c6] at H
   have c6b0 : decide (x4_1 < (l0.length : Int)) = true:=decide_eq_true c6
   clear c6
   by_cases c7 : 0 ≤ x4_1
   rotate_left
   ·rw [if_neg c7] at H
    exact absurd H (by simp)
   rw [if_pos c7] at H
   have c7b0 : decide (0 ≤ x4_1) = true:=decide_eq_true c7
   clear c7
   replace H:=Option.bind_eq_some_iff.mp H
   obtain ⟨⟨t120,t121,t122,t123,t124,t125⟩,A80,H⟩:=H
   try dsimp only at H
   have A8:=ak A80
   clear A80
   by_cases c9 : x4_1 < (x3_1.length : Int)
   rotate_left
   ·rw [if_neg c9] at H
    exact absurd H (by simp)
   rw [if_pos c9] at H
   have c9b0 : decide (x4_1 < (x3_1.length : Int)) = true:=decide_eq_true c9
   clear c9
   obtain ⟨y126,hy126⟩ : ∃ y_ : List (S134),y_ = (x3_1.set (x4_1 : Int).toNat (⟨t120,t121,(⟨t122,t123,t124,t125⟩ : S34)⟩ : S134)):=⟨_,rfl⟩
   replace H : (laws_toEntryS.l0 k1 l0 y126 (wrap64 (x4_1 + 1))) = some r:=by first | (rw [hy126];with_reducible exact H) | (have H2_:=(Option.bind_some _ _).symm.trans H;rw [hy126];with_reducible exact H2_) | (have H2_:=(Option.bind_some _ _).symm.trans H;with_reducible exact H2_) | with_reducible exact H | (rw [hy126];exact H) | exact H
   have Ny126:=ak hy126
   clear hy126
   have H':=ak H
   clear H
   have p119 : 0 ≤ (x4_1 : Int):=of_decide_eq_true (by first | (with_reducible assumption) | assumption)
   have q119 : x4_1 < (l0.length : Int):=of_decide_eq_true (by first | (with_reducible assumption) | assumption)
   obtain ⟨ad119,e119,hx119_0,hx119_1,hx119_2,hx119_3,hx119_4,hx119_5⟩:=at_T175 HR0.out x4_1 p119 q119
   cases e119
   replace hx119_0:=(HB.out.cell (World.block_lt_of_cell? w _ hx119_0)).trans hx119_0
   replace hx119_1:=(HB.out.cell (World.block_lt_of_cell? w _ hx119_1)).trans hx119_1
   replace hx119_2:=(HB.out.cell (World.block_lt_of_cell? w _ hx119_2)).trans hx119_2
   replace hx119_3:=(HB.out.cell (World.block_lt_of_cell? w _ hx119_3)).trans hx119_3
   replace hx119_4:=(HB.out.cell (World.block_lt_of_cell? w _ hx119_4)).trans hx119_4
   replace hx119_5:=(HB.out.cell (World.block_lt_of_cell? w _ hx119_5)).trans hx119_5
   replace p119:=eq_true p119
   replace q119:=eq_true q119
   go_wp2_with (first | ((with_reducible refine gc (f:=169) rfl ?_);refine gl (some 20) Try.func169 #[.agg #[.int .i64 ((rd_T175 l0 x4_1).f0),.int .i64 ((rd_T175 l0 x4_1).f1),.int .i64 ((rd_T175 l0 x4_1).f2.f0),.int .i64 ((rd_T175 l0 x4_1).f2.f1),.int .i64 ((rd_T175 l0 x4_1).f2.f2),.int .i64 ((rd_T175 l0 x4_1).f2.f3)]] ?_;(with_reducible refine (laws_toEntry.calls ((rd_T175 l0 x4_1).f0) ((rd_T175 l0 x4_1).f1) ((rd_T175 l0 x4_1).f2.f0) ((rd_T175 l0 x4_1).f2.f1) ((rd_T175 l0 x4_1).f2.f2) ((rd_T175 l0 x4_1).f2.f3) t120 t121 t122 t123 t124 t125 _ A8.out).mono ?_);rintro e w11 ⟨rfl,hb⟩;refine ⟨_,rfl,?_⟩;have n_ : _∧_:=⟨ka HO_3 hb,kh HB hb⟩;clear HO_3 HB;obtain ⟨HO_3,HB⟩:=n_;(try clear hb);(try clear hb2);(try clear hk);(try clear hi);have p10 : 0 ≤ (x4_1 : Int):=of_decide_eq_true (by first | (with_reducible assumption) | assumption);have q10 : (x4_1 : Int) < ((x3_1.length : Int) : Int):=of_decide_eq_true (by first | (with_reducible assumption) | assumption);obtain ⟨go10,co10,eo10,gb10,gl10,cl10,HG10⟩:=Kd.R_form HO_3.out (by omega);(first | cases eo10 | (injection eo10 with ea_ en_ ec_;(first | subst ea_ | (injection ea_ with ea_;subst ea_));subst ec_;clear en_));have GB10:=ak gb10;have GG10:=ak HG10;clear gb10 gl10 HG10;obtain ⟨ce10,hcl10,hM10,hcc10,hfr10⟩:=Kd.R_elem HO_3.out z134 (x4_1 : Int) p10 q10;obtain rfl:=k134_openM hM10;have hx10_0 : w11.cell? ⟨go10,(x4_1 : Int).toNat * 6,none⟩ = some (.int .i64 ((rd_T134 x3_1 x4_1).f0)):=hcc10 0 _ rfl;have hx10_1 : w11.cell? ⟨go10,(x4_1 : Int).toNat * 6 + 1,none⟩ = some (.int .i64 ((rd_T134 x3_1 x4_1).f1)):=hcc10 1 _ rfl;have hx10_2 : w11.cell? ⟨go10,(x4_1 : Int).toNat * 6 + 2,none⟩ = some (.int .i64 ((rd_T134 x3_1 x4_1).f2.f0)):=hcc10 2 _ rfl;have hx10_3 : w11.cell? ⟨go10,(x4_1 : Int).toNat * 6 + 3,none⟩ = some (.int .i64 ((rd_T134 x3_1 x4_1).f2.f1)):=hcc10 3 _ rfl;have hx10_4 : w11.cell? ⟨go10,(x4_1 : Int).toNat * 6 + 4,none⟩ = some (.int .i64 ((rd_T134 x3_1 x4_1).f2.f2)):=hcc10 4 _ rfl;have hx10_5 : w11.cell? ⟨go10,(x4_1 : Int).toNat * 6 + 5,none⟩ = some (.int .i64 ((rd_T134 x3_1 x4_1).f2.f3)):=hcc10 5 _ rfl;have hf10_0 : w11.frozen? ⟨go10,(x4_1 : Int).toNat * 6,none⟩ = false:=hfr10 0;have hf10_1 : w11.frozen? ⟨go10,(x4_1 : Int).toNat * 6 + 1,none⟩ = false:=hfr10 1;have hf10_2 : w11.frozen? ⟨go10,(x4_1 : Int).toNat * 6 + 2,none⟩ = false:=hfr10 2;have hf10_3 : w11.frozen? ⟨go10,(x4_1 : Int).toNat * 6 + 3,none⟩ = false:=hfr10 3;have hf10_4 : w11.frozen? ⟨go10,(x4_1 : Int).toNat * 6 + 4,none⟩ = false:=hfr10 4;have hf10_5 : w11.frozen? ⟨go10,(x4_1 : Int).toNat * 6 + 5,none⟩ = false:=hfr10 5;clear hcl10 hcc10 hfr10 hM10;replace p10:=eq_true p10;replace q10:=eq_true q10;have HX12:=ak (show Kd.R k134 134 w11 w.heap.size (fun _=>True) (.slice (some ⟨go10,0,none⟩) x3_1.length co10) x3_1 from (rr HO_3.out));obtain ⟨ce12,hcl12,hM12,hcc12,hfr12⟩:=Kd.R_elem HX12.out z134 (x4_1 : Int) (of_decide_eq_true (by first | (with_reducible assumption) | assumption)) (by have h_ : (x4_1 : Int) < ((x3_1.length : Int) : Int):=of_decide_eq_true (by first | (with_reducible assumption) | assumption);first | exact h_ | (have e_:=(Kd.R_reads' HO_3.out).1;omega) | simpa using h_);obtain rfl:=k134_openM hM12;have HP12:=Kd.R_seg HX12.out (x4_1 : Int) (of_decide_eq_true (by first | (with_reducible assumption) | assumption)) (by have h_ : (x4_1 : Int) < ((x3_1.length : Int) : Int):=of_decide_eq_true (by first | (with_reducible assumption) | assumption);first | exact h_ | (have e_:=(Kd.R_reads' HO_3.out).1;omega) | simpa using h_) (seg:=[.int .i64 t120,.int .i64 t121,.int .i64 t122,.int .i64 t123,.int .i64 t124,.int .i64 t125]) (j:=0) hcl12 hcc12 (show 6 ≤ 6 from by decide) (x':=(⟨t120,t121,(⟨t122,t123,t124,t125⟩ : S34)⟩ : S134)) (k134_mkM _ _ _ (⟨t120,t121,(⟨t122,t123,t124,t125⟩ : S34)⟩ : S134) ) (fun _ hk=>hk);have hx12_0:=hcc12 0 _ rfl;(try simp only [show (k134).sz = 6 from rfl,Nat.mul_one,Nat.add_zero] at hx12_0);have hf12_0:=hfr12 0;(try simp only [show (k134).sz = 6 from rfl,Nat.mul_one,Nat.add_zero] at hf12_0);have hx12_1:=hcc12 1 _ rfl;(try simp only [show (k134).sz = 6 from rfl,Nat.mul_one,Nat.add_zero] at hx12_1);have hf12_1:=hfr12 1;(try simp only [show (k134).sz = 6 from rfl,Nat.mul_one,Nat.add_zero] at hf12_1);have hx12_2:=hcc12 2 _ rfl;(try simp only [show (k134).sz = 6 from rfl,Nat.mul_one,Nat.add_zero] at hx12_2);have hf12_2:=hfr12 2;(try simp only [show (k134).sz = 6 from rfl,Nat.mul_one,Nat.add_zero] at hf12_2);have hx12_3:=hcc12 3 _ rfl;(try simp only [show (k134).sz = 6 from rfl,Nat.mul_one,Nat.add_zero] at hx12_3);have hf12_3:=hfr12 3;(try simp only [show (k134).sz = 6 from rfl,Nat.mul_one,Nat.add_zero] at hf12_3);have hx12_4:=hcc12 4 _ rfl;(try simp only [show (k134).sz = 6 from rfl,Nat.mul_one,Nat.add_zero] at hx12_4);have hf12_4:=hfr12 4;(try simp only [show (k134).sz = 6 from rfl,Nat.mul_one,Nat.add_zero] at hf12_4);have hx12_5:=hcc12 5 _ rfl;(try simp only [show (k134).sz = 6 from rfl,Nat.mul_one,Nat.add_zero] at hx12_5);have hf12_5:=hfr12 5;(try simp only [show (k134).sz = 6 from rfl,Nat.mul_one,Nat.add_zero] at hf12_5);clear hcl12 hcc12 hfr12 hM12) | ((with_reducible refine gate_store (t:=134) (p:=21) rfl ?_);refine store_event (t:=134) (p:=21) (v:=?vo_w13) (w1:=((((((w11.setCell ⟨go10,(x4_1 : Int).toNat * 6,none⟩ (.int .i64 t120)).setCell ⟨go10,(x4_1 : Int).toNat * 6 + 1,none⟩ (.int .i64 t121)).setCell ⟨go10,(x4_1 : Int).toNat * 6 + 2,none⟩ (.int .i64 t122)).setCell ⟨go10,(x4_1 : Int).toNat * 6 + 3,none⟩ (.int .i64 t123)).setCell ⟨go10,(x4_1 : Int).toNat * 6 + 4,none⟩ (.int .i64 t124)).setCell ⟨go10,(x4_1 : Int).toNat * 6 + 5,none⟩ (.int .i64 t125))) ?hg ?ho ?hn ?hr ?_;(case ho=>rfl);(case hg=>rfl);(case hn=>rfl);(case hr=>first | (go_simp;done) | (go_simp;rfl));intro w13 hw;have hg : w11.grownBy w13 (some go10):=(by rw [hw];exact HP12.2);have hp_ : Kd.R k134 134 w13 w.heap.size (fun _=>True) (.slice (some ⟨go10,0,none⟩) x3_1.length co10) y126:=(by rw [hw,Ny126.out];exact HP12.1);clear HP12;have n0_:=ak (hp_);have n1_:=ak ((by rw [hw];exact below_set (below_set (below_set (below_set (below_set (below_set (HB.out) GB10.out) GB10.out) GB10.out) GB10.out) GB10.out) GB10.out : Below w.heap.size w w13));clear HO_3 HB;have HO_3:=n0_;have HB:=n1_;clear n0_ n1_ hg hw hp_))
   go_roundg k1
   case measure=>have:=HK1.out;omega
   case rel=>exact ⟨(y126),(wrap64 (x4_1 + 1)),(by first | rfl | (simp;done) | (simp [*];done)),H',⟨by have:=HK1.out;omega⟩,⟨rr HO_3.out⟩,⟨rbx HB⟩⟩

/-! ### laws_toIntS: function 105 -/
def laws_toIntS.l0 : Nat→List Int→List Int→Int→Option (List Int)
 | 0,_,_,_=>none
 | k + 1,x0,x3,x4=>if x4 < (x0.length : Int) then (if 0 ≤ x4 then (if x4 < (x3.length : Int) then (laws_toIntS.l0 k x0 (x3.set (x4 : Int).toNat (rd x0 x4)) (wrap64 (x4 + 1))) else (none)) else (none)) else (some x3)
def laws_toIntS.f (k : Nat) (l0 : List Int) : Option (List Int):=if 0 ≤ (l0.length : Int) then (if ((l0.length : Int) : Int).toNat ≤ 35184372088832 then (laws_toIntS.l0 k l0 (List.replicate ((l0.length : Int) : Int).toNat 0) 0) else (none)) else (none)
theorem laws_toIntS.mono_l : ∀ k,(∀ y0 y1 y2,LeO (laws_toIntS.l0 k y0 y1 y2) (laws_toIntS.l0 (k + 1) y0 y1 y2))
 | 0=>fun _ _ _ r h=>by simp [laws_toIntS.l0] at h
 | k + 1=>by
  have ih0:=laws_toIntS.mono_l k
  ·intro y0 y1 y2
   unfold laws_toIntS.l0
   repeat' first
   | (with_reducible apply ih0)
   | (with_reducible exact LeO.refl _)
   | (with_reducible exact LeO.none _)
   | (with_reducible refine LeO.ite ?_ ?_)
   | (with_reducible refine LeO.bind ?_ (fun _=>?_))
   | apply ih0
   | exact LeO.none _
   | refine LeO.ite ?_ ?_
   | refine LeO.bind ?_ (fun _=>?_)
theorem laws_toIntS.mono : ∀ a0 k,LeO (laws_toIntS.f k a0) (laws_toIntS.f (k + 1) a0):=by
 intro a0 k
 have ih0:=laws_toIntS.mono_l k
 unfold laws_toIntS.f
 repeat' first
   | (with_reducible apply ih0)
   | (with_reducible exact LeO.refl _)
   | (with_reducible exact LeO.none _)
   | (with_reducible refine LeO.ite ?_ ?_)
   | (with_reducible refine LeO.bind ?_ (fun _=>?_))
   | apply ih0
   | exact LeO.none _
   | refine LeO.ite ?_ ?_
   | refine LeO.bind ?_ (fun _=>?_)
set_option maxHeartbeats 8000000 in
theorem laws_toIntS.calls (k : Nat) (A0 : Option Addr) (c0 : Nat) (l0 : List Int) (r : List Int) (w : World) (hr0 : Kd.C (Kd.int .i64) w A0 l0.length l0) (hc0 : l0.length ≤ c0) (h : laws_toIntS.f k l0 = some r) :
  Calls Try.prog 105 #[.slice A0 l0.length c0] w fun e w'=>∃ v0_ : Value,e = .returned (v0_)∧Kd.R (Kd.int .i64) 3 w' w.heap.size (fun _=>True) v0_ r∧Below w.heap.size w w':=by
 have HR0:=ak hr0
 have HC0:=ak hc0
 clear hr0 hc0
 have HB:=ak (Below.refl w.heap.size w)
 have H:=h
 clear h
 unfold laws_toIntS.f at H
 by_cases c2 : 0 ≤ (l0.length : Int)
 rotate_left
 ·rw [if_neg c2] at H
  exact absurd H (by simp)
 rw [if_pos c2] at H
 have c2b0:=eq_true c2
 have c2b1 : decide (0 ≤ (l0.length : Int)) = true:=decide_eq_true c2
 clear c2
 by_cases c3 : ((l0.length : Int) : Int).toNat ≤ 35184372088832
 rotate_left
 ·rw [if_neg c3] at H
  exact absurd H (by simp)
 rw [if_pos c3] at H
 have c3b0:=eq_true c3
 have c3b1 : decide (((l0.length : Int) : Int).toNat ≤ 35184372088832) = true:=decide_eq_true c3
 clear c3
 obtain ⟨y127,hy127⟩ : ∃ y_ : List Int,y_ = (List.replicate ((l0.length : Int) : Int).toNat 0):=⟨_,rfl⟩
 replace H : (laws_toIntS.l0 k l0 y127 0) = some r:=by first | (rw [hy127];with_reducible exact H) | (have H2_:=(Option.bind_some _ _).symm.trans H;rw [hy127];with_reducible exact H2_) | (have H2_:=(Option.bind_some _ _).symm.trans H;with_reducible exact H2_) | with_reducible exact H | (rw [hy127];exact H) | exact H
 have Ny127:=ak hy127
 clear hy127
 have H':=ak H
 clear H
 go_enter Try.func105,Try.ntmps105
 go_wp2_with (first | ((with_reducible refine gate_dst (N:=7) rfl ?_);refine Kd.R_make (Kd.int .i64) _ 3 rfl (N:=7) rfl 30 _ _ rfl (l0.length : Int) rfl rfl Try.underlying30 (.int .i64 0) 8 info3 rfl (by decide) (by omega) 0 (ok:=fun _=>True) (okp:=fun _=>True) rfl (fun _ hk=>hk) trivial (of_decide_eq_true (by first | (with_reducible assumption) | assumption)) (Nat.le_trans (Nat.mul_le_mul_right _ (of_decide_eq_true (by first | (with_reducible assumption) | assumption) : (l0.length : Int).toNat ≤ 35184372088832)) (by omega)) (Below.refl _ _) (Nat.le_refl _) ?_;intro v128 w4 ho5 hb hg_ hnew_;clear hg_ hnew_;(first | rw [← Ny127.out] at ho5 | (simp only [Int.reduceToNat] at ho5;rw [← Ny127.out] at ho5));have n_ : _∧_:=⟨kl ho5 HB,kh HB hb⟩;clear HB hb ho5;obtain ⟨HO129,HB⟩:=n_))
 go_loopg [4] k (fun kq v4 w'=>∃ (x3_1 : List Int) (x4_1 : Int),v4 = .int .i64 x4_1∧Aside0 (laws_toIntS.l0 kq l0 x3_1 x4_1 = some r)∧Aside0 (kq ≤ k)∧Aside0 (Kd.R (Kd.int .i64) 3 w' w.heap.size (fun _=>True) v128 x3_1)∧Aside0 (Below w.heap.size w w'))
 case atStart=>exact ⟨(y127),(0),(by first | rfl | (simp;done) | (simp [*];done)),H',⟨Nat.le_refl _⟩,⟨rr HO129.out⟩,⟨rbx HB⟩⟩
 case round =>
  clear H'
  try clear c1
  try clear c2
  try clear c2b0
  try clear c2b1
  try clear p2
  try clear c3
  try clear c3b0
  try clear c3b1
  obtain ⟨x3_1,x4_1,rfl,HA,HK1,HO_3,HB⟩:=hrel
  cases gk with
  | zero=>exact absurd HA.out (by simp [laws_toIntS.l0])
  | succ k1 =>
   have H:=HA.out
   clear HA
   simp only [laws_toIntS.l0] at H
   by_cases c6 : x4_1 < (l0.length : Int)
   rotate_left
   ·rw [if_neg c6] at H
    have c6b0 : decide (x4_1 < (l0.length : Int)) = false:=decide_eq_false c6
    clear c6
    obtain rfl:=Option.some.inj H
    go_wp2
    go_ret
    exact ⟨_,by first | rfl | (simp [errW_none,errW_some] <;> rfl) | (simp [*,errW_none,errW_some] <;> rfl),rr HO_3.out,rbx HB⟩
   rw [if_pos c6] at H
   have c6b0 : decide (x4_1 < (l0.length : Int)) = true:=decide_eq_true c6
   clear c6
   by_cases c7 : 0 ≤ x4_1
   rotate_left
   ·rw [if_neg c7] at H
    exact absurd H (by simp)
   rw [if_pos c7] at H
   have c7b0 : decide (0 ≤ x4_1) = true:=decide_eq_true c7
   clear c7
   by_cases c8 : x4_1 < (x3_1.length : Int)
   rotate_left
   ·rw [if_neg c8] at H
    exact absurd H (by simp)
   rw [if_pos c8] at H
   have c8b0 : decide (x4_1 < (x3_1.length : Int)) = true:=decide_eq_true c8
   clear c8
   obtain ⟨y131,hy131⟩ : ∃ y_ : List Int,y_ = (x3_1.set (x4_1 : Int).toNat (rd l0 x4_1)):=⟨_,rfl⟩
   replace H : (laws_toIntS.l0 k1 l0 y131 (wrap64 (x4_1 + 1))) = some r:=by first | (rw [hy131];with_reducible exact H) | (have H2_:=(Option.bind_some _ _).symm.trans H;rw [hy131];with_reducible exact H2_) | (have H2_:=(Option.bind_some _ _).symm.trans H;with_reducible exact H2_) | with_reducible exact H | (rw [hy131];exact H) | exact H
   have Ny131:=ak hy131
   clear hy131
   have H':=ak H
   clear H
   have p130 : 0 ≤ (x4_1 : Int):=of_decide_eq_true (by first | (with_reducible assumption) | assumption)
   have q130 : x4_1 < (l0.length : Int):=of_decide_eq_true (by first | (with_reducible assumption) | assumption)
   obtain ⟨ad130,e130,hx130_0⟩:=Kd.at_int HR0.out x4_1 p130 q130
   cases e130
   replace hx130_0:=(HB.out.cell (World.block_lt_of_cell? w _ hx130_0)).trans hx130_0
   replace p130:=eq_true p130
   replace q130:=eq_true q130
   have p9 : 0 ≤ (x4_1 : Int):=of_decide_eq_true (by first | (with_reducible assumption) | assumption)
   have q9 : (x4_1 : Int) < ((x3_1.length : Int) : Int):=of_decide_eq_true (by first | (with_reducible assumption) | assumption)
   obtain ⟨go9,co9,eo9,gb9,gl9,cl9,HG9⟩:=Kd.R_form HO_3.out (by omega)
   (first | cases eo9 | (injection eo9 with ea_ en_ ec_;(first | subst ea_ | (injection ea_ with ea_;subst ea_));subst ec_;clear en_))
   have GB9:=ak gb9
   have GG9:=ak HG9
   clear gb9 gl9 HG9
   obtain ⟨hx9_0,hf9_0⟩:=Kd.R_celln 0 HO_3.out (x4_1 : Int) p9 q9
   replace p9:=eq_true p9
   replace q9:=eq_true q9
   have HP10:=Kd.R_putg HO_3.out (x4_1 : Int) (rd l0 x4_1)
   go_wp2_with (first | ((with_reducible refine gate_store (t:=3) (p:=20) rfl ?_);refine store_event (t:=3) (p:=20) (v:=?vo_w11) (w1:=(wr.setCell ⟨go9,(x4_1 : Int).toNat,none⟩ (.int .i64 (rd l0 x4_1)))) ?hg ?ho ?hn ?hr ?_;(case ho=>rfl);(case hg=>rfl);(case hn=>rfl);(case hr=>first | (go_simp;done) | (go_simp;rfl));intro w11 hw;have hg : wr.grownBy w11 (some go9):=(by rw [hw];exact HP10.2);have hp_ : Kd.R (Kd.int .i64) 3 w11 w.heap.size (fun _=>True) (.slice (some ⟨go9,0,none⟩) x3_1.length co9) y131:=(by rw [hw,Ny131.out];exact HP10.1);clear HP10;have n0_:=ak (hp_);have n1_:=ak ((by rw [hw];exact below_set (HB.out) GB9.out : Below w.heap.size w w11));clear HO_3 HB;have HO_3:=n0_;have HB:=n1_;clear n0_ n1_ hg hw hp_))
   go_roundg k1
   case measure=>have:=HK1.out;omega
   case rel=>exact ⟨(y131),(wrap64 (x4_1 + 1)),(by first | rfl | (simp;done) | (simp [*];done)),H',⟨by have:=HK1.out;omega⟩,⟨rr HO_3.out⟩,⟨rbx HB⟩⟩

/-! ### laws_toEarly: function 170 -/
def laws_toEarly.f (a0_0 : Int) (a0_1 : Int) (a0_2 : Int) (a0_3 : Int) (a0_4 : Int) (a0_5 : Int) : Option (Int × Int × Int × Int × Int × Int):=(laws_toItem.f a0_2 a0_3 a0_4 a0_5).bind fun bt135=>(some (a0_0,a0_1,bt135.1,bt135.2.1,bt135.2.2.1,bt135.2.2.2))
set_option maxHeartbeats 8000000 in
theorem laws_toEarly.calls (a0_0 : Int) (a0_1 : Int) (a0_2 : Int) (a0_3 : Int) (a0_4 : Int) (a0_5 : Int) (r1 : Int) (r2 : Int) (r3 : Int) (r4 : Int) (r5 : Int) (r6 : Int) (w : World) (h : laws_toEarly.f a0_0 a0_1 a0_2 a0_3 a0_4 a0_5 = some (r1,r2,r3,r4,r5,r6)) :
  Calls Try.prog 170 #[.agg #[.int .i64 a0_0,.int .i64 a0_1,.int .i64 a0_2,.int .i64 a0_3,.int .i64 a0_4,.int .i64 a0_5]] w fun e w'=>e = .returned (.agg #[.int .i64 r1,.int .i64 r2,.int .i64 r3,.int .i64 r4,.int .i64 r5,.int .i64 r6])∧Below w.heap.size w w':=by
 have hu177:=Try.underlying177
 have hu127:=Try.underlying127
 have hu105:=Try.underlying105
 have hu34:=Try.underlying34
 have HB:=ak (Below.refl w.heap.size w)
 have H:=h
 clear h
 unfold laws_toEarly.f at H
 replace H:=Option.bind_eq_some_iff.mp H
 obtain ⟨⟨t135,t136,t137,t138⟩,A20,H⟩:=H
 try dsimp only at H
 have A2:=ak A20
 clear A20
 simp only [Option.some.injEq,Prod.mk.injEq] at H
 obtain ⟨rfl,rfl,rfl,rfl,rfl,rfl⟩:=H
 go_enter Try.func170,Try.ntmps170
 go_wp2_with (first | ((with_reducible refine gate_dst (N:=1) rfl ?_);refine box_event ?hg (N:=1) ?hd (cs:=#[.int .i64 a0_0,.int .i64 a0_1,.int .i64 a0_2,.int .i64 a0_3,.int .i64 a0_4,.int .i64 a0_5]) (t:=177) ?hr ?_;(case hd=>rfl);(case hg=>rfl);(case hr=>first | (go_simp;done) | (go_simp;rfl));intro gb132 hg w3 hbox hb;have n_ : _∧_∧_∧_:=⟨kh HB hb,ak (hbox),kz HB hg,kz HB hg⟩;clear HB hb hbox hg;obtain ⟨HB,BK132,GW132,GE132⟩:=n_) | ((with_reducible refine gate_dst (N:=2) rfl ?_);refine box_event ?hg (N:=2) ?hd (cs:=#[.int .i64 0,.int .i64 0,.int .i64 0,.int .i64 0,.int .i64 0,.int .i64 0]) (t:=127) ?hr ?_;(case hd=>rfl);(case hg=>rfl);(case hr=>first | (go_simp;done) | (go_simp;rfl));intro gb133 hg w4 hbox hb;have n_ : _∧_∧_∧_∧_∧_∧_:=⟨kb BK132 hb,kh HB hb,ak (hbox),kz HB hg,kz HB hg,nl BK132 hg,ng BK132 hg⟩;clear BK132 HB hb hbox hg;obtain ⟨BK132,HB,BK133,GW133,GE133,NB132_133,NB133_132⟩:=n_) | ((with_reducible refine gate_dst (N:=3) rfl ?_);refine box_event ?hg (N:=3) ?hd (cs:=#[.int .i64 0,.int .i64 0,.int .i64 0,.int .i64 0,.int .i64 0,.int .i64 0]) (t:=127) ?hr ?_;(case hd=>rfl);(case hg=>rfl);(case hr=>first | (go_simp;done) | (go_simp;rfl));intro gb134 hg w5 hbox hb;have n_ : _∧_∧_∧_∧_∧_∧_∧_∧_∧_:=⟨kb BK132 hb,kb BK133 hb,kh HB hb,ak (hbox),kz HB hg,kz HB hg,nl BK132 hg,ng BK132 hg,nl BK133 hg,ng BK133 hg⟩;clear BK132 BK133 HB hb hbox hg;obtain ⟨BK132,BK133,HB,BK134,GW134,GE134,NB132_134,NB134_132,NB133_134,NB134_133⟩:=n_;have hnb6:=NB132_133.out;have hnc6:=NB133_132.out;have hnb7:=NB132_134.out;have hnc7:=NB134_132.out;have hcz8_0 : w5.cell? ⟨gb132,0,none⟩ = some (.int .i64 a0_0):=(blk_cell BK132.out 0).trans rfl;have hcz8_1 : w5.cell? ⟨gb132,1,none⟩ = some (.int .i64 a0_1):=(blk_cell BK132.out 1).trans rfl;have hcz8_2 : w5.cell? ⟨gb132,2,none⟩ = some (.int .i64 a0_2):=(blk_cell BK132.out 2).trans rfl;have hcz8_3 : w5.cell? ⟨gb132,3,none⟩ = some (.int .i64 a0_3):=(blk_cell BK132.out 3).trans rfl;have hcz8_4 : w5.cell? ⟨gb132,4,none⟩ = some (.int .i64 a0_4):=(blk_cell BK132.out 4).trans rfl;have hcz8_5 : w5.cell? ⟨gb132,5,none⟩ = some (.int .i64 a0_5):=(blk_cell BK132.out 5).trans rfl;have hfz8_0:=blk_frozen BK132.out 0;have hfz8_1:=blk_frozen BK132.out 1;have hfz8_2:=blk_frozen BK132.out 2;have hfz8_3:=blk_frozen BK132.out 3;have hfz8_4:=blk_frozen BK132.out 4;have hfz8_5:=blk_frozen BK132.out 5;have hnb9:=NB134_133.out;have hnc9:=NB133_134.out;have hcz10_0 : w5.cell? ⟨gb134,0,none⟩ = some (.int .i64 0):=(blk_cell BK134.out 0).trans rfl;have hcz10_1 : w5.cell? ⟨gb134,1,none⟩ = some (.int .i64 0):=(blk_cell BK134.out 1).trans rfl;have hcz10_2 : w5.cell? ⟨gb134,2,none⟩ = some (.int .i64 0):=(blk_cell BK134.out 2).trans rfl;have hcz10_3 : w5.cell? ⟨gb134,3,none⟩ = some (.int .i64 0):=(blk_cell BK134.out 3).trans rfl;have hcz10_4 : w5.cell? ⟨gb134,4,none⟩ = some (.int .i64 0):=(blk_cell BK134.out 4).trans rfl;have hcz10_5 : w5.cell? ⟨gb134,5,none⟩ = some (.int .i64 0):=(blk_cell BK134.out 5).trans rfl;have hfz10_0:=blk_frozen BK134.out 0;have hfz10_1:=blk_frozen BK134.out 1;have hfz10_2:=blk_frozen BK134.out 2;have hfz10_3:=blk_frozen BK134.out 3;have hfz10_4:=blk_frozen BK134.out 4;have hfz10_5:=blk_frozen BK134.out 5) | ((with_reducible refine gc (f:=163) rfl ?_);refine gl (some 12) Try.func163 #[.agg #[.int .i64 a0_2,.int .i64 a0_3,.int .i64 a0_4,.int .i64 a0_5]] ?_;(with_reducible refine (laws_toItem.calls a0_2 a0_3 a0_4 a0_5 t135 t136 t137 t138 _ A2.out).mono ?_);rintro e w11 ⟨rfl,hb⟩;refine ⟨_,rfl,?_⟩;have n_ : _∧_∧_∧_:=⟨kp #[.int .i64 a0_0,.int .i64 a0_1,.int .i64 a0_2,.int .i64 a0_3,.int .i64 a0_4,.int .i64 a0_5] BK132 hb,kp #[.int .i64 0,.int .i64 0,.int .i64 0,.int .i64 0,.int .i64 0,.int .i64 0] BK133 hb,kp #[.int .i64 a0_0,.int .i64 a0_1,.int .i64 0,.int .i64 0,.int .i64 0,.int .i64 0] BK134 hb,kh HB hb⟩;clear BK132 BK133 BK134 HB;obtain ⟨BK132,BK133,BK134,HB⟩:=n_;(try clear hb);(try clear hb2);(try clear hk);(try clear hi);have hcz12_0 : w11.cell? ⟨gb134,0,none⟩ = some (.int .i64 a0_0):=(blk_cell BK134.out 0).trans rfl;have hcz12_1 : w11.cell? ⟨gb134,1,none⟩ = some (.int .i64 a0_1):=(blk_cell BK134.out 1).trans rfl;have hcz12_2 : w11.cell? ⟨gb134,2,none⟩ = some (.int .i64 0):=(blk_cell BK134.out 2).trans rfl;have hcz12_3 : w11.cell? ⟨gb134,3,none⟩ = some (.int .i64 0):=(blk_cell BK134.out 3).trans rfl;have hcz12_4 : w11.cell? ⟨gb134,4,none⟩ = some (.int .i64 0):=(blk_cell BK134.out 4).trans rfl;have hcz12_5 : w11.cell? ⟨gb134,5,none⟩ = some (.int .i64 0):=(blk_cell BK134.out 5).trans rfl;have hfz12_0:=blk_frozen BK134.out 0;have hfz12_1:=blk_frozen BK134.out 1;have hfz12_2:=blk_frozen BK134.out 2;have hfz12_3:=blk_frozen BK134.out 3;have hfz12_4:=blk_frozen BK134.out 4;have hfz12_5:=blk_frozen BK134.out 5;have hcz13_0 : w11.cell? ⟨gb133,0,none⟩ = some (.int .i64 0):=(blk_cell BK133.out 0).trans rfl;have hcz13_1 : w11.cell? ⟨gb133,1,none⟩ = some (.int .i64 0):=(blk_cell BK133.out 1).trans rfl;have hcz13_2 : w11.cell? ⟨gb133,2,none⟩ = some (.int .i64 0):=(blk_cell BK133.out 2).trans rfl;have hcz13_3 : w11.cell? ⟨gb133,3,none⟩ = some (.int .i64 0):=(blk_cell BK133.out 3).trans rfl;have hcz13_4 : w11.cell? ⟨gb133,4,none⟩ = some (.int .i64 0):=(blk_cell BK133.out 4).trans rfl;have hcz13_5 : w11.cell? ⟨gb133,5,none⟩ = some (.int .i64 0):=(blk_cell BK133.out 5).trans rfl;have hfz13_0:=blk_frozen BK133.out 0;have hfz13_1:=blk_frozen BK133.out 1;have hfz13_2:=blk_frozen BK133.out 2;have hfz13_3:=blk_frozen BK133.out 3;have hfz13_4:=blk_frozen BK133.out 4;have hfz13_5:=blk_frozen BK133.out 5))
 refine bodyPost_ret (results_cell_row rfl _ _ gb133 127 #[.int .i64 a0_0,.int .i64 a0_1,.int .i64 t135,.int .i64 t136,.int .i64 t137,.int .i64 t138] (0,0) _ rfl (kq BK133) Try.underlying127 rfl (by kernel_rfl)) rfl ?_
 exact ⟨by first | rfl | (simp [errW_none,errW_some] <;> rfl) | (simp [*,errW_none,errW_some] <;> rfl),rbx HB⟩

/-! ### laws_toEarlyS: function 106 -/
def laws_toEarlyS.l0 : Nat→List (S177)→List (S127)→Int→Option ((List (S127)))
 | 0,_,_,_=>none
 | k + 1,x0,x3,x4=>if x4 < (x0.length : Int) then (if 0 ≤ x4 then ((laws_toEarly.f ((rd_T177 x0 x4).f0) ((rd_T177 x0 x4).f1) ((rd_T177 x0 x4).f2.f0) ((rd_T177 x0 x4).f2.f1) ((rd_T177 x0 x4).f2.f2) ((rd_T177 x0 x4).f2.f3)).bind fun bt143=>(if x4 < (x3.length : Int) then (laws_toEarlyS.l0 k x0 (x3.set (x4 : Int).toNat (⟨bt143.1,bt143.2.1,(⟨bt143.2.2.1,bt143.2.2.2.1,bt143.2.2.2.2.1,bt143.2.2.2.2.2⟩ : S34)⟩ : S127)) (wrap64 (x4 + 1))) else (none))) else (none)) else (some x3)
def laws_toEarlyS.f (k : Nat) (l0 : List (S177)) : Option ((List (S127))):=if 0 ≤ (l0.length : Int) then (if ((l0.length : Int) : Int).toNat ≤ 5864062014805 then (laws_toEarlyS.l0 k l0 (List.replicate ((l0.length : Int) : Int).toNat z127) 0) else (none)) else (none)
theorem laws_toEarlyS.mono_l : ∀ k,(∀ y0 y1 y2,LeO (laws_toEarlyS.l0 k y0 y1 y2) (laws_toEarlyS.l0 (k + 1) y0 y1 y2))
 | 0=>fun _ _ _ r h=>by simp [laws_toEarlyS.l0] at h
 | k + 1=>by
  have ih0:=laws_toEarlyS.mono_l k
  ·intro y0 y1 y2
   unfold laws_toEarlyS.l0
   repeat' first
   | (with_reducible apply ih0)
   | (with_reducible exact LeO.refl _)
   | (with_reducible exact LeO.none _)
   | (with_reducible refine LeO.ite ?_ ?_)
   | (with_reducible refine LeO.bind ?_ (fun _=>?_))
   | apply ih0
   | exact LeO.none _
   | refine LeO.ite ?_ ?_
   | refine LeO.bind ?_ (fun _=>?_)
theorem laws_toEarlyS.mono : ∀ a0 k,LeO (laws_toEarlyS.f k a0) (laws_toEarlyS.f (k + 1) a0):=by
 intro a0 k
 have ih0:=laws_toEarlyS.mono_l k
 unfold laws_toEarlyS.f
 repeat' first
   | (with_reducible apply ih0)
   | (with_reducible exact LeO.refl _)
   | (with_reducible exact LeO.none _)
   | (with_reducible refine LeO.ite ?_ ?_)
   | (with_reducible refine LeO.bind ?_ (fun _=>?_))
   | apply ih0
   | exact LeO.none _
   | refine LeO.ite ?_ ?_
   | refine LeO.bind ?_ (fun _=>?_)
set_option maxHeartbeats 8000000 in
theorem laws_toEarlyS.calls (k : Nat) (A0 : Option Addr) (c0 : Nat) (l0 : List (S177)) (r : List (S127)) (w : World) (hr0 : Kd.C k177 w A0 l0.length l0) (hc0 : l0.length ≤ c0) (h : laws_toEarlyS.f k l0 = some r) :
  Calls Try.prog 106 #[.slice A0 l0.length c0] w fun e w'=>∃ v0_ : Value,e = .returned (v0_)∧Kd.R k127 127 w' w.heap.size (fun _=>True) v0_ r∧Below w.heap.size w w':=by
 have hu177:=Try.underlying177
 have hu127:=Try.underlying127
 have HR0:=ak hr0
 have HC0:=ak hc0
 clear hr0 hc0
 have HB:=ak (Below.refl w.heap.size w)
 have H:=h
 clear h
 unfold laws_toEarlyS.f at H
 by_cases c2 : 0 ≤ (l0.length : Int)
 rotate_left
 ·rw [if_neg c2] at H
  exact absurd H (by simp)
 rw [if_pos c2] at H
 have c2b0:=eq_true c2
 have c2b1 : decide (0 ≤ (l0.length : Int)) = true:=decide_eq_true c2
 clear c2
 by_cases c3 : ((l0.length : Int) : Int).toNat ≤ 5864062014805
 rotate_left
 ·rw [if_neg c3] at H
  exact absurd H (by simp)
 rw [if_pos c3] at H
 have c3b0:=eq_true c3
 have c3b1 : decide (((l0.length : Int) : Int).toNat ≤ 5864062014805) = true:=decide_eq_true c3
 clear c3
 obtain ⟨y139,hy139⟩ : ∃ y_ : List (S127),y_ = (List.replicate ((l0.length : Int) : Int).toNat z127):=⟨_,rfl⟩
 replace H : (laws_toEarlyS.l0 k l0 y139 0) = some r:=by first | (rw [hy139];with_reducible exact H) | (have H2_:=(Option.bind_some _ _).symm.trans H;rw [hy139];with_reducible exact H2_) | (have H2_:=(Option.bind_some _ _).symm.trans H;with_reducible exact H2_) | with_reducible exact H | (rw [hy139];exact H) | exact H
 have Ny139:=ak hy139
 clear hy139
 have H':=ak H
 clear H
 go_enter Try.func106,Try.ntmps106
 go_wp2_with (first | ((with_reducible refine gate_dst (N:=7) rfl ?_);refine Kd.R_make k127 _ 127 rfl (N:=7) rfl 49 _ _ rfl (l0.length : Int) rfl rfl Try.underlying49 (.agg #[(.int .i64 0),(.int .i64 0),(.int .i64 0),(.int .i64 0),(.int .i64 0),(.int .i64 0)]) 48 info127 rfl (by decide) (by omega) z127 (ok:=fun _=>True) (okp:=fun _=>True) (k127_mkM _ _ _ z127 ) (fun _ hk=>hk) trivial (of_decide_eq_true (by first | (with_reducible assumption) | assumption)) (Nat.le_trans (Nat.mul_le_mul_right _ (of_decide_eq_true (by first | (with_reducible assumption) | assumption) : (l0.length : Int).toNat ≤ 5864062014805)) (by omega)) (Below.refl _ _) (Nat.le_refl _) ?_;intro v140 w4 ho5 hb hg_ hnew_;clear hg_ hnew_;(first | rw [← Ny139.out] at ho5 | (simp only [Int.reduceToNat] at ho5;rw [← Ny139.out] at ho5));have n_ : _∧_:=⟨kl ho5 HB,kh HB hb⟩;clear HB hb ho5;obtain ⟨HO141,HB⟩:=n_))
 go_loopg [4] k (fun kq v4 w'=>∃ (x3_1 : List (S127)) (x4_1 : Int),v4 = .int .i64 x4_1∧Aside0 (laws_toEarlyS.l0 kq l0 x3_1 x4_1 = some r)∧Aside0 (kq ≤ k)∧Aside0 (Kd.R k127 127 w' w.heap.size (fun _=>True) v140 x3_1)∧Aside0 (Below w.heap.size w w'))
 case atStart=>exact ⟨(y139),(0),(by first | rfl | (simp;done) | (simp [*];done)),H',⟨Nat.le_refl _⟩,⟨rr HO141.out⟩,⟨rbx HB⟩⟩
 case round =>
  clear H'
  try clear c1
  try clear c2
  try clear c2b0
  try clear c2b1
  try clear p2
  try clear c3
  try clear c3b0
  try clear c3b1
  obtain ⟨x3_1,x4_1,rfl,HA,HK1,HO_3,HB⟩:=hrel
  cases gk with
  | zero=>exact absurd HA.out (by simp [laws_toEarlyS.l0])
  | succ k1 =>
   have H:=HA.out
   clear HA
   simp only [laws_toEarlyS.l0] at H
   by_cases c6 : x4_1 < (l0.length : Int)
   rotate_left
   ·rw [if_neg c6] at H
    have c6b0 : decide (x4_1 < (l0.length : Int)) = false:=decide_eq_false c6
    clear c6
    obtain rfl:=Option.some.inj H
    go_wp2
    go_ret
    exact ⟨_,by first | rfl | (simp [errW_none,errW_some] <;> rfl) | (simp [*,errW_none,errW_some] <;> rfl),rr HO_3.out,rbx HB⟩
   rw [if_pos c6] at H
   have c6b0 : decide (x4_1 < (l0.length : Int)) = true:=decide_eq_true c6
   clear c6
   by_cases c7 : 0 ≤ x4_1
   rotate_left
   ·rw [if_neg c7] at H
    exact absurd H (by simp)
   rw [if_pos c7] at H
   have c7b0 : decide (0 ≤ x4_1) = true:=decide_eq_true c7
   clear c7
   replace H:=Option.bind_eq_some_iff.mp H
   obtain ⟨⟨t143,t144,t145,t146,t147,t148⟩,A80,H⟩:=H
   try dsimp only at H
   have A8:=ak A80
   clear A80
   by_cases c9 : x4_1 < (x3_1.length : Int)
   rotate_left
   ·rw [if_neg c9] at H
    exact absurd H (by simp)
   rw [if_pos c9] at H
   have c9b0 : decide (x4_1 < (x3_1.length : Int)) = true:=decide_eq_true c9
   clear c9
   obtain ⟨y149,hy149⟩ : ∃ y_ : List (S127),y_ = (x3_1.set (x4_1 : Int).toNat (⟨t143,t144,(⟨t145,t146,t147,t148⟩ : S34)⟩ : S127)):=⟨_,rfl⟩
   replace H : (laws_toEarlyS.l0 k1 l0 y149 (wrap64 (x4_1 + 1))) = some r:=by first | (rw [hy149];with_reducible exact H) | (have H2_:=(Option.bind_some _ _).symm.trans H;rw [hy149];with_reducible exact H2_) | (have H2_:=(Option.bind_some _ _).symm.trans H;with_reducible exact H2_) | with_reducible exact H | (rw [hy149];exact H) | exact H
   have Ny149:=ak hy149
   clear hy149
   have H':=ak H
   clear H
   have p142 : 0 ≤ (x4_1 : Int):=of_decide_eq_true (by first | (with_reducible assumption) | assumption)
   have q142 : x4_1 < (l0.length : Int):=of_decide_eq_true (by first | (with_reducible assumption) | assumption)
   obtain ⟨ad142,e142,hx142_0,hx142_1,hx142_2,hx142_3,hx142_4,hx142_5⟩:=at_T177 HR0.out x4_1 p142 q142
   cases e142
   replace hx142_0:=(HB.out.cell (World.block_lt_of_cell? w _ hx142_0)).trans hx142_0
   replace hx142_1:=(HB.out.cell (World.block_lt_of_cell? w _ hx142_1)).trans hx142_1
   replace hx142_2:=(HB.out.cell (World.block_lt_of_cell? w _ hx142_2)).trans hx142_2
   replace hx142_3:=(HB.out.cell (World.block_lt_of_cell? w _ hx142_3)).trans hx142_3
   replace hx142_4:=(HB.out.cell (World.block_lt_of_cell? w _ hx142_4)).trans hx142_4
   replace hx142_5:=(HB.out.cell (World.block_lt_of_cell? w _ hx142_5)).trans hx142_5
   replace p142:=eq_true p142
   replace q142:=eq_true q142
   go_wp2_with (first | ((with_reducible refine gc (f:=170) rfl ?_);refine gl (some 20) Try.func170 #[.agg #[.int .i64 ((rd_T177 l0 x4_1).f0),.int .i64 ((rd_T177 l0 x4_1).f1),.int .i64 ((rd_T177 l0 x4_1).f2.f0),.int .i64 ((rd_T177 l0 x4_1).f2.f1),.int .i64 ((rd_T177 l0 x4_1).f2.f2),.int .i64 ((rd_T177 l0 x4_1).f2.f3)]] ?_;(with_reducible refine (laws_toEarly.calls ((rd_T177 l0 x4_1).f0) ((rd_T177 l0 x4_1).f1) ((rd_T177 l0 x4_1).f2.f0) ((rd_T177 l0 x4_1).f2.f1) ((rd_T177 l0 x4_1).f2.f2) ((rd_T177 l0 x4_1).f2.f3) t143 t144 t145 t146 t147 t148 _ A8.out).mono ?_);rintro e w11 ⟨rfl,hb⟩;refine ⟨_,rfl,?_⟩;have n_ : _∧_:=⟨ka HO_3 hb,kh HB hb⟩;clear HO_3 HB;obtain ⟨HO_3,HB⟩:=n_;(try clear hb);(try clear hb2);(try clear hk);(try clear hi);have p10 : 0 ≤ (x4_1 : Int):=of_decide_eq_true (by first | (with_reducible assumption) | assumption);have q10 : (x4_1 : Int) < ((x3_1.length : Int) : Int):=of_decide_eq_true (by first | (with_reducible assumption) | assumption);obtain ⟨go10,co10,eo10,gb10,gl10,cl10,HG10⟩:=Kd.R_form HO_3.out (by omega);(first | cases eo10 | (injection eo10 with ea_ en_ ec_;(first | subst ea_ | (injection ea_ with ea_;subst ea_));subst ec_;clear en_));have GB10:=ak gb10;have GG10:=ak HG10;clear gb10 gl10 HG10;obtain ⟨ce10,hcl10,hM10,hcc10,hfr10⟩:=Kd.R_elem HO_3.out z127 (x4_1 : Int) p10 q10;obtain rfl:=k127_openM hM10;have hx10_0 : w11.cell? ⟨go10,(x4_1 : Int).toNat * 6,none⟩ = some (.int .i64 ((rd_T127 x3_1 x4_1).f0)):=hcc10 0 _ rfl;have hx10_1 : w11.cell? ⟨go10,(x4_1 : Int).toNat * 6 + 1,none⟩ = some (.int .i64 ((rd_T127 x3_1 x4_1).f1)):=hcc10 1 _ rfl;have hx10_2 : w11.cell? ⟨go10,(x4_1 : Int).toNat * 6 + 2,none⟩ = some (.int .i64 ((rd_T127 x3_1 x4_1).f2.f0)):=hcc10 2 _ rfl;have hx10_3 : w11.cell? ⟨go10,(x4_1 : Int).toNat * 6 + 3,none⟩ = some (.int .i64 ((rd_T127 x3_1 x4_1).f2.f1)):=hcc10 3 _ rfl;have hx10_4 : w11.cell? ⟨go10,(x4_1 : Int).toNat * 6 + 4,none⟩ = some (.int .i64 ((rd_T127 x3_1 x4_1).f2.f2)):=hcc10 4 _ rfl;have hx10_5 : w11.cell? ⟨go10,(x4_1 : Int).toNat * 6 + 5,none⟩ = some (.int .i64 ((rd_T127 x3_1 x4_1).f2.f3)):=hcc10 5 _ rfl;have hf10_0 : w11.frozen? ⟨go10,(x4_1 : Int).toNat * 6,none⟩ = false:=hfr10 0;have hf10_1 : w11.frozen? ⟨go10,(x4_1 : Int).toNat * 6 + 1,none⟩ = false:=hfr10 1;have hf10_2 : w11.frozen? ⟨go10,(x4_1 : Int).toNat * 6 + 2,none⟩ = false:=hfr10 2;have hf10_3 : w11.frozen? ⟨go10,(x4_1 : Int).toNat * 6 + 3,none⟩ = false:=hfr10 3;have hf10_4 : w11.frozen? ⟨go10,(x4_1 : Int).toNat * 6 + 4,none⟩ = false:=hfr10 4;have hf10_5 : w11.frozen? ⟨go10,(x4_1 : Int).toNat * 6 + 5,none⟩ = false:=hfr10 5;clear hcl10 hcc10 hfr10 hM10;replace p10:=eq_true p10;replace q10:=eq_true q10;have HX12:=ak (show Kd.R k127 127 w11 w.heap.size (fun _=>True) (.slice (some ⟨go10,0,none⟩) x3_1.length co10) x3_1 from (rr HO_3.out));obtain ⟨ce12,hcl12,hM12,hcc12,hfr12⟩:=Kd.R_elem HX12.out z127 (x4_1 : Int) (of_decide_eq_true (by first | (with_reducible assumption) | assumption)) (by have h_ : (x4_1 : Int) < ((x3_1.length : Int) : Int):=of_decide_eq_true (by first | (with_reducible assumption) | assumption);first | exact h_ | (have e_:=(Kd.R_reads' HO_3.out).1;omega) | simpa using h_);obtain rfl:=k127_openM hM12;have HP12:=Kd.R_seg HX12.out (x4_1 : Int) (of_decide_eq_true (by first | (with_reducible assumption) | assumption)) (by have h_ : (x4_1 : Int) < ((x3_1.length : Int) : Int):=of_decide_eq_true (by first | (with_reducible assumption) | assumption);first | exact h_ | (have e_:=(Kd.R_reads' HO_3.out).1;omega) | simpa using h_) (seg:=[.int .i64 t143,.int .i64 t144,.int .i64 t145,.int .i64 t146,.int .i64 t147,.int .i64 t148]) (j:=0) hcl12 hcc12 (show 6 ≤ 6 from by decide) (x':=(⟨t143,t144,(⟨t145,t146,t147,t148⟩ : S34)⟩ : S127)) (k127_mkM _ _ _ (⟨t143,t144,(⟨t145,t146,t147,t148⟩ : S34)⟩ : S127) ) (fun _ hk=>hk);have hx12_0:=hcc12 0 _ rfl;(try simp only [show (k127).sz = 6 from rfl,Nat.mul_one,Nat.add_zero] at hx12_0);have hf12_0:=hfr12 0;(try simp only [show (k127).sz = 6 from rfl,Nat.mul_one,Nat.add_zero] at hf12_0);have hx12_1:=hcc12 1 _ rfl;(try simp only [show (k127).sz = 6 from rfl,Nat.mul_one,Nat.add_zero] at hx12_1);have hf12_1:=hfr12 1;(try simp only [show (k127).sz = 6 from rfl,Nat.mul_one,Nat.add_zero] at hf12_1);have hx12_2:=hcc12 2 _ rfl;(try simp only [show (k127).sz = 6 from rfl,Nat.mul_one,Nat.add_zero] at hx12_2);have hf12_2:=hfr12 2;(try simp only [show (k127).sz = 6 from rfl,Nat.mul_one,Nat.add_zero] at hf12_2);have hx12_3:=hcc12 3 _ rfl;(try simp only [show (k127).sz = 6 from rfl,Nat.mul_one,Nat.add_zero] at hx12_3);have hf12_3:=hfr12 3;(try simp only [show (k127).sz = 6 from rfl,Nat.mul_one,Nat.add_zero] at hf12_3);have hx12_4:=hcc12 4 _ rfl;(try simp only [show (k127).sz = 6 from rfl,Nat.mul_one,Nat.add_zero] at hx12_4);have hf12_4:=hfr12 4;(try simp only [show (k127).sz = 6 from rfl,Nat.mul_one,Nat.add_zero] at hf12_4);have hx12_5:=hcc12 5 _ rfl;(try simp only [show (k127).sz = 6 from rfl,Nat.mul_one,Nat.add_zero] at hx12_5);have hf12_5:=hfr12 5;(try simp only [show (k127).sz = 6 from rfl,Nat.mul_one,Nat.add_zero] at hf12_5);clear hcl12 hcc12 hfr12 hM12) | ((with_reducible refine gate_store (t:=127) (p:=21) rfl ?_);refine store_event (t:=127) (p:=21) (v:=?vo_w13) (w1:=((((((w11.setCell ⟨go10,(x4_1 : Int).toNat * 6,none⟩ (.int .i64 t143)).setCell ⟨go10,(x4_1 : Int).toNat * 6 + 1,none⟩ (.int .i64 t144)).setCell ⟨go10,(x4_1 : Int).toNat * 6 + 2,none⟩ (.int .i64 t145)).setCell ⟨go10,(x4_1 : Int).toNat * 6 + 3,none⟩ (.int .i64 t146)).setCell ⟨go10,(x4_1 : Int).toNat * 6 + 4,none⟩ (.int .i64 t147)).setCell ⟨go10,(x4_1 : Int).toNat * 6 + 5,none⟩ (.int .i64 t148))) ?hg ?ho ?hn ?hr ?_;(case ho=>rfl);(case hg=>rfl);(case hn=>rfl);(case hr=>first | (go_simp;done) | (go_simp;rfl));intro w13 hw;have hg : w11.grownBy w13 (some go10):=(by rw [hw];exact HP12.2);have hp_ : Kd.R k127 127 w13 w.heap.size (fun _=>True) (.slice (some ⟨go10,0,none⟩) x3_1.length co10) y149:=(by rw [hw,Ny149.out];exact HP12.1);clear HP12;have n0_:=ak (hp_);have n1_:=ak ((by rw [hw];exact below_set (below_set (below_set (below_set (below_set (below_set (HB.out) GB10.out) GB10.out) GB10.out) GB10.out) GB10.out) GB10.out : Below w.heap.size w w13));clear HO_3 HB;have HO_3:=n0_;have HB:=n1_;clear n0_ n1_ hg hw hp_))
   go_roundg k1
   case measure=>have:=HK1.out;omega
   case rel=>exact ⟨(y149),(wrap64 (x4_1 + 1)),(by first | rfl | (simp;done) | (simp [*];done)),H',⟨by have:=HK1.out;omega⟩,⟨rr HO_3.out⟩,⟨rbx HB⟩⟩

/-! ### laws_toKeeper: function 25 -/
def laws_toKeeper.f (k : Nat) (l0_0 : List (S175)) (l0_1 : List Int) (l0_2 : List (S177)) (a0_3 : Int) (l0_4 : List Int) : Option ((List (S134)) × List Int × (List (S127)) × Int × List Int):=(laws_toEntryS.f k l0_0).bind fun t153=>((laws_toIntS.f k l0_1).bind fun t156=>((laws_toEarlyS.f k l0_2).bind fun t159=>((laws_toIntS.f k l0_4).bind fun t162=>(some (t153,t156,t159,a0_3,t162)))))
theorem laws_toKeeper.mono : ∀ a0 a1 a2 a3 a4 k,LeO (laws_toKeeper.f k a0 a1 a2 a3 a4) (laws_toKeeper.f (k + 1) a0 a1 a2 a3 a4):=by
 intro a0 a1 a2 a3 a4 k
 unfold laws_toKeeper.f
 repeat' first
   | (with_reducible apply laws_toEarlyS.mono)
   | (with_reducible apply laws_toEntryS.mono)
   | (with_reducible apply laws_toIntS.mono)
   | (with_reducible exact LeO.refl _)
   | (with_reducible exact LeO.none _)
   | (with_reducible refine LeO.ite ?_ ?_)
   | (with_reducible refine LeO.bind ?_ (fun _=>?_))
   | apply laws_toEarlyS.mono
   | apply laws_toEntryS.mono
   | apply laws_toIntS.mono
   | exact LeO.none _
   | refine LeO.ite ?_ ?_
   | refine LeO.bind ?_ (fun _=>?_)
set_option maxHeartbeats 8000000 in
theorem laws_toKeeper.calls (k : Nat) (A0_0 : Option Addr) (c0_0 : Nat) (l0_0 : List (S175)) (A0_1 : Option Addr) (c0_1 : Nat) (l0_1 : List Int) (A0_2 : Option Addr) (c0_2 : Nat) (l0_2 : List (S177)) (a0_3 : Int) (A0_4 : Option Addr) (c0_4 : Nat) (l0_4 : List Int) (r1 : List (S134)) (r2 : List Int) (r3 : List (S127)) (r4 : Int) (r5 : List Int) (w : World) (hr0_0 : Kd.C k175 w A0_0 l0_0.length l0_0) (hc0_0 : l0_0.length ≤ c0_0) (hr0_1 : Kd.C (Kd.int .i64) w A0_1 l0_1.length l0_1) (hc0_1 : l0_1.length ≤ c0_1) (hr0_2 : Kd.C k177 w A0_2 l0_2.length l0_2) (hc0_2 : l0_2.length ≤ c0_2) (hr0_4 : Kd.C (Kd.int .i64) w A0_4 l0_4.length l0_4) (hc0_4 : l0_4.length ≤ c0_4) (h : laws_toKeeper.f k l0_0 l0_1 l0_2 a0_3 l0_4 = some (r1,r2,r3,r4,r5)) :
  Calls Try.prog 25 #[.agg #[.slice A0_0 l0_0.length c0_0,.slice A0_1 l0_1.length c0_1,.slice A0_2 l0_2.length c0_2,.int .i64 a0_3,.slice A0_4 l0_4.length c0_4]] w fun e w'=>∃ v0_ v1_ v2_ v4_ : Value,e = .returned (.agg #[v0_,v1_,v2_,.int .i64 r4,v4_])∧Kd.R k134 134 w' w.heap.size (fun _=>True) v0_ r1∧Kd.R (Kd.int .i64) 3 w' w.heap.size (fun k_=>some k_ ≠ (v4_ : Value).ownBlock) v1_ r2∧Kd.R k127 127 w' w.heap.size (fun _=>True) v2_ r3∧Kd.R (Kd.int .i64) 3 w' w.heap.size (fun k_=>some k_ ≠ (v1_ : Value).ownBlock) v4_ r5∧Below w.heap.size w w':=by
 have hu45:=Try.underlying45
 have hu51:=Try.underlying51
 have HR0_0:=ak hr0_0
 have HC0_0:=ak hc0_0
 clear hr0_0 hc0_0
 have HR0_1:=ak hr0_1
 have HC0_1:=ak hc0_1
 clear hr0_1 hc0_1
 have HR0_2:=ak hr0_2
 have HC0_2:=ak hc0_2
 clear hr0_2 hc0_2
 have HR0_4:=ak hr0_4
 have HC0_4:=ak hc0_4
 clear hr0_4 hc0_4
 have HB:=ak (Below.refl w.heap.size w)
 have H:=h
 clear h
 unfold laws_toKeeper.f at H
 replace H:=Option.bind_eq_some_iff.mp H
 obtain ⟨t153,A20,H⟩:=H
 try dsimp only at H
 have A2:=ak A20
 clear A20
 replace H:=Option.bind_eq_some_iff.mp H
 obtain ⟨t156,A30,H⟩:=H
 try dsimp only at H
 have A3:=ak A30
 clear A30
 replace H:=Option.bind_eq_some_iff.mp H
 obtain ⟨t159,A40,H⟩:=H
 try dsimp only at H
 have A4:=ak A40
 clear A40
 replace H:=Option.bind_eq_some_iff.mp H
 obtain ⟨t162,A50,H⟩:=H
 try dsimp only at H
 have A5:=ak A50
 clear A50
 simp only [Option.some.injEq,Prod.mk.injEq] at H
 obtain ⟨rfl,rfl,rfl,rfl,rfl⟩:=H
 go_enter Try.func25,Try.ntmps25
 go_wp2_with (first | ((with_reducible refine gate_dst (N:=1) rfl ?_);refine box_event ?hg (N:=1) ?hd (cs:=#[.slice A0_0 l0_0.length c0_0,.slice A0_1 l0_1.length c0_1,.slice A0_2 l0_2.length c0_2,.int .i64 a0_3,.slice A0_4 l0_4.length c0_4]) (t:=45) ?hr ?_;(case hd=>rfl);(case hg=>rfl);(case hr=>first | (go_simp;done) | (go_simp;rfl));intro gb150 hg w6 hbox hb;have n_ : _∧_∧_∧_:=⟨kh HB hb,ak (hbox),kz HB hg,kz HB hg⟩;clear HB hb hbox hg;obtain ⟨HB,BK150,GW150,GE150⟩:=n_) | ((with_reducible refine gate_dst (N:=2) rfl ?_);refine box_event ?hg (N:=2) ?hd (cs:=#[.slice none 0 0,.slice none 0 0,.slice none 0 0,.int .i64 0,.slice none 0 0]) (t:=51) ?hr ?_;(case hd=>rfl);(case hg=>rfl);(case hr=>first | (go_simp;done) | (go_simp;rfl));intro gb151 hg w7 hbox hb;have n_ : _∧_∧_∧_∧_∧_∧_:=⟨kb BK150 hb,kh HB hb,ak (hbox),kz HB hg,kz HB hg,nl BK150 hg,ng BK150 hg⟩;clear BK150 HB hb hbox hg;obtain ⟨BK150,HB,BK151,GW151,GE151,NB150_151,NB151_150⟩:=n_) | ((with_reducible refine gate_dst (N:=3) rfl ?_);refine box_event ?hg (N:=3) ?hd (cs:=#[.slice none 0 0,.slice none 0 0,.slice none 0 0,.int .i64 0,.slice none 0 0]) (t:=51) ?hr ?_;(case hd=>rfl);(case hg=>rfl);(case hr=>first | (go_simp;done) | (go_simp;rfl));intro gb152 hg w8 hbox hb;have n_ : _∧_∧_∧_∧_∧_∧_∧_∧_∧_:=⟨kb BK150 hb,kb BK151 hb,kh HB hb,ak (hbox),kz HB hg,kz HB hg,nl BK150 hg,ng BK150 hg,nl BK151 hg,ng BK151 hg⟩;clear BK150 BK151 HB hb hbox hg;obtain ⟨BK150,BK151,HB,BK152,GW152,GE152,NB150_152,NB152_150,NB151_152,NB152_151⟩:=n_;have hnb9:=NB150_151.out;have hnc9:=NB151_150.out;have hnb10:=NB150_152.out;have hnc10:=NB152_150.out;have hcz11_0 : w8.cell? ⟨gb150,0,none⟩ = some (.slice A0_0 l0_0.length c0_0):=(blk_cell BK150.out 0).trans rfl;have hcz11_1 : w8.cell? ⟨gb150,1,none⟩ = some (.slice A0_1 l0_1.length c0_1):=(blk_cell BK150.out 1).trans rfl;have hcz11_2 : w8.cell? ⟨gb150,2,none⟩ = some (.slice A0_2 l0_2.length c0_2):=(blk_cell BK150.out 2).trans rfl;have hcz11_3 : w8.cell? ⟨gb150,3,none⟩ = some (.int .i64 a0_3):=(blk_cell BK150.out 3).trans rfl;have hcz11_4 : w8.cell? ⟨gb150,4,none⟩ = some (.slice A0_4 l0_4.length c0_4):=(blk_cell BK150.out 4).trans rfl;have hfz11_0:=blk_frozen BK150.out 0;have hfz11_1:=blk_frozen BK150.out 1;have hfz11_2:=blk_frozen BK150.out 2;have hfz11_3:=blk_frozen BK150.out 3;have hfz11_4:=blk_frozen BK150.out 4) | ((with_reducible refine gc (f:=104) rfl ?_);refine gl (some 6) Try.func104 #[.slice A0_0 l0_0.length c0_0] ?_;(with_reducible refine (laws_toEntryS.calls k _ _ l0_0 t153 _ ?side1 ?side2 A2.out).mono ?_);(case side1=>exact rc (Kd.C_below HR0_0.out HB.out));(case side2=>exact HC0_0.out);rintro e w12 ⟨v154,rfl,ho0,hb⟩;refine ⟨_,rfl,?_⟩;have n_ : _∧_∧_∧_∧_:=⟨kl ho0 HB,kb BK150 hb,kb BK151 hb,kb BK152 hb,kh HB hb⟩;clear BK150 BK151 BK152 HB;obtain ⟨HO155,BK150,BK151,BK152,HB⟩:=n_;(try clear hb);(try clear hb2);(try clear hk);(try clear hi);(try clear ho0);obtain ⟨Ao13,co13,eo13⟩:=Kd.R_slice HO155.out;subst eo13;have hnb14:=NB152_151.out;have hnc14:=NB151_152.out;have hcz15_0 : w12.cell? ⟨gb152,0,none⟩ = some (.slice none 0 0):=(blk_cell BK152.out 0).trans rfl;have hcz15_1 : w12.cell? ⟨gb152,1,none⟩ = some (.slice none 0 0):=(blk_cell BK152.out 1).trans rfl;have hcz15_2 : w12.cell? ⟨gb152,2,none⟩ = some (.slice none 0 0):=(blk_cell BK152.out 2).trans rfl;have hcz15_3 : w12.cell? ⟨gb152,3,none⟩ = some (.int .i64 0):=(blk_cell BK152.out 3).trans rfl;have hcz15_4 : w12.cell? ⟨gb152,4,none⟩ = some (.slice none 0 0):=(blk_cell BK152.out 4).trans rfl;have hfz15_0:=blk_frozen BK152.out 0;have hfz15_1:=blk_frozen BK152.out 1;have hfz15_2:=blk_frozen BK152.out 2;have hfz15_3:=blk_frozen BK152.out 3;have hfz15_4:=blk_frozen BK152.out 4;have hcz16_0 : w12.cell? ⟨gb150,0,none⟩ = some (.slice A0_0 l0_0.length c0_0):=(blk_cell BK150.out 0).trans rfl;have hcz16_1 : w12.cell? ⟨gb150,1,none⟩ = some (.slice A0_1 l0_1.length c0_1):=(blk_cell BK150.out 1).trans rfl;have hcz16_2 : w12.cell? ⟨gb150,2,none⟩ = some (.slice A0_2 l0_2.length c0_2):=(blk_cell BK150.out 2).trans rfl;have hcz16_3 : w12.cell? ⟨gb150,3,none⟩ = some (.int .i64 a0_3):=(blk_cell BK150.out 3).trans rfl;have hcz16_4 : w12.cell? ⟨gb150,4,none⟩ = some (.slice A0_4 l0_4.length c0_4):=(blk_cell BK150.out 4).trans rfl;have hfz16_0:=blk_frozen BK150.out 0;have hfz16_1:=blk_frozen BK150.out 1;have hfz16_2:=blk_frozen BK150.out 2;have hfz16_3:=blk_frozen BK150.out 3;have hfz16_4:=blk_frozen BK150.out 4) | ((with_reducible refine gc (f:=105) rfl ?_);refine gl (some 10) Try.func105 #[.slice A0_1 l0_1.length c0_1] ?_;(with_reducible refine (laws_toIntS.calls k _ _ l0_1 t156 _ ?side1 ?side2 A3.out).mono ?_);(case side1=>exact Kd.C_below HR0_1.out (rb3 GE150.out GE151.out GE152.out HB.out));(case side2=>exact HC0_1.out);rintro e w17 ⟨v157,rfl,ho0,hb⟩;refine ⟨_,rfl,?_⟩;have n_ : _∧_∧_∧_∧_∧_:=⟨kaf HO155 hb,kl ho0 HB,kp #[.slice A0_0 l0_0.length c0_0,.slice A0_1 l0_1.length c0_1,.slice A0_2 l0_2.length c0_2,.int .i64 a0_3,.slice A0_4 l0_4.length c0_4] BK150 hb,kp #[.slice none 0 0,.slice none 0 0,.slice none 0 0,.int .i64 0,.slice none 0 0] BK151 hb,kp #[.slice Ao13 t153.length co13,.slice none 0 0,.slice none 0 0,.int .i64 0,.slice none 0 0] BK152 hb,kh HB hb⟩;clear HO155 BK150 BK151 BK152 HB;obtain ⟨HO155,HO158,BK150,BK151,BK152,HB⟩:=n_;(try clear hb);(try clear hb2);(try clear hk);(try clear hi);(try clear ho0);obtain ⟨Ao18,co18,eo18⟩:=Kd.R_slice HO158.out;subst eo18;have hcz19_0 : w17.cell? ⟨gb152,0,none⟩ = some (.slice Ao13 t153.length co13):=(blk_cell BK152.out 0).trans rfl;have hcz19_1 : w17.cell? ⟨gb152,1,none⟩ = some (.slice none 0 0):=(blk_cell BK152.out 1).trans rfl;have hcz19_2 : w17.cell? ⟨gb152,2,none⟩ = some (.slice none 0 0):=(blk_cell BK152.out 2).trans rfl;have hcz19_3 : w17.cell? ⟨gb152,3,none⟩ = some (.int .i64 0):=(blk_cell BK152.out 3).trans rfl;have hcz19_4 : w17.cell? ⟨gb152,4,none⟩ = some (.slice none 0 0):=(blk_cell BK152.out 4).trans rfl;have hfz19_0:=blk_frozen BK152.out 0;have hfz19_1:=blk_frozen BK152.out 1;have hfz19_2:=blk_frozen BK152.out 2;have hfz19_3:=blk_frozen BK152.out 3;have hfz19_4:=blk_frozen BK152.out 4;have hcz20_0 : w17.cell? ⟨gb150,0,none⟩ = some (.slice A0_0 l0_0.length c0_0):=(blk_cell BK150.out 0).trans rfl;have hcz20_1 : w17.cell? ⟨gb150,1,none⟩ = some (.slice A0_1 l0_1.length c0_1):=(blk_cell BK150.out 1).trans rfl;have hcz20_2 : w17.cell? ⟨gb150,2,none⟩ = some (.slice A0_2 l0_2.length c0_2):=(blk_cell BK150.out 2).trans rfl;have hcz20_3 : w17.cell? ⟨gb150,3,none⟩ = some (.int .i64 a0_3):=(blk_cell BK150.out 3).trans rfl;have hcz20_4 : w17.cell? ⟨gb150,4,none⟩ = some (.slice A0_4 l0_4.length c0_4):=(blk_cell BK150.out 4).trans rfl;have hfz20_0:=blk_frozen BK150.out 0;have hfz20_1:=blk_frozen BK150.out 1;have hfz20_2:=blk_frozen BK150.out 2;have hfz20_3:=blk_frozen BK150.out 3;have hfz20_4:=blk_frozen BK150.out 4) | ((with_reducible refine gc (f:=106) rfl ?_);refine gl (some 14) Try.func106 #[.slice A0_2 l0_2.length c0_2] ?_;(with_reducible refine (laws_toEarlyS.calls k _ _ l0_2 t159 _ ?side1 ?side2 A4.out).mono ?_);(case side1=>exact Kd.C_below HR0_2.out (rb3 GE150.out GE151.out GE152.out HB.out));(case side2=>exact HC0_2.out);rintro e w21 ⟨v160,rfl,ho0,hb⟩;refine ⟨_,rfl,?_⟩;have n_ : _∧_∧_∧_∧_∧_∧_:=⟨kaf HO155 hb,kaf HO158 hb,kl ho0 HB,kp #[.slice A0_0 l0_0.length c0_0,.slice A0_1 l0_1.length c0_1,.slice A0_2 l0_2.length c0_2,.int .i64 a0_3,.slice A0_4 l0_4.length c0_4] BK150 hb,kp #[.slice none 0 0,.slice none 0 0,.slice none 0 0,.int .i64 0,.slice none 0 0] BK151 hb,kp #[.slice Ao13 t153.length co13,.slice Ao18 t156.length co18,.slice none 0 0,.int .i64 0,.slice none 0 0] BK152 hb,kh HB hb⟩;clear HO155 HO158 BK150 BK151 BK152 HB;obtain ⟨HO155,HO158,HO161,BK150,BK151,BK152,HB⟩:=n_;(try clear hb);(try clear hb2);(try clear hk);(try clear hi);(try clear ho0);obtain ⟨Ao22,co22,eo22⟩:=Kd.R_slice HO161.out;subst eo22;have hcz23_0 : w21.cell? ⟨gb152,0,none⟩ = some (.slice Ao13 t153.length co13):=(blk_cell BK152.out 0).trans rfl;have hcz23_1 : w21.cell? ⟨gb152,1,none⟩ = some (.slice Ao18 t156.length co18):=(blk_cell BK152.out 1).trans rfl;have hcz23_2 : w21.cell? ⟨gb152,2,none⟩ = some (.slice none 0 0):=(blk_cell BK152.out 2).trans rfl;have hcz23_3 : w21.cell? ⟨gb152,3,none⟩ = some (.int .i64 0):=(blk_cell BK152.out 3).trans rfl;have hcz23_4 : w21.cell? ⟨gb152,4,none⟩ = some (.slice none 0 0):=(blk_cell BK152.out 4).trans rfl;have hfz23_0:=blk_frozen BK152.out 0;have hfz23_1:=blk_frozen BK152.out 1;have hfz23_2:=blk_frozen BK152.out 2;have hfz23_3:=blk_frozen BK152.out 3;have hfz23_4:=blk_frozen BK152.out 4;have hcz24_0 : w21.cell? ⟨gb150,0,none⟩ = some (.slice A0_0 l0_0.length c0_0):=(blk_cell BK150.out 0).trans rfl;have hcz24_1 : w21.cell? ⟨gb150,1,none⟩ = some (.slice A0_1 l0_1.length c0_1):=(blk_cell BK150.out 1).trans rfl;have hcz24_2 : w21.cell? ⟨gb150,2,none⟩ = some (.slice A0_2 l0_2.length c0_2):=(blk_cell BK150.out 2).trans rfl;have hcz24_3 : w21.cell? ⟨gb150,3,none⟩ = some (.int .i64 a0_3):=(blk_cell BK150.out 3).trans rfl;have hcz24_4 : w21.cell? ⟨gb150,4,none⟩ = some (.slice A0_4 l0_4.length c0_4):=(blk_cell BK150.out 4).trans rfl;have hfz24_0:=blk_frozen BK150.out 0;have hfz24_1:=blk_frozen BK150.out 1;have hfz24_2:=blk_frozen BK150.out 2;have hfz24_3:=blk_frozen BK150.out 3;have hfz24_4:=blk_frozen BK150.out 4) | ((with_reducible refine gc (f:=105) rfl ?_);refine gl (some 21) Try.func105 #[.slice A0_4 l0_4.length c0_4] ?_;(with_reducible refine (laws_toIntS.calls k _ _ l0_4 t162 _ ?side1 ?side2 A5.out).mono ?_);(case side1=>exact Kd.C_below HR0_4.out (rb3 GE150.out GE151.out GE152.out HB.out));(case side2=>exact HC0_4.out);rintro e w25 ⟨v163,rfl,ho0,hb⟩;refine ⟨_,rfl,?_⟩;have n_ : _∧_∧_∧_∧_∧_∧_∧_:=⟨kaf HO155 hb,kef HO158 ho0 hb,kaf HO161 hb,kl (knf ho0 HO158) HB,kp #[.slice A0_0 l0_0.length c0_0,.slice A0_1 l0_1.length c0_1,.slice A0_2 l0_2.length c0_2,.int .i64 a0_3,.slice A0_4 l0_4.length c0_4] BK150 hb,kp #[.slice none 0 0,.slice none 0 0,.slice none 0 0,.int .i64 0,.slice none 0 0] BK151 hb,kp #[.slice Ao13 t153.length co13,.slice Ao18 t156.length co18,.slice Ao22 t159.length co22,.int .i64 a0_3,.slice none 0 0] BK152 hb,kh HB hb⟩;clear HO155 HO158 HO161 BK150 BK151 BK152 HB;obtain ⟨HO155,HO158,HO161,HO164,BK150,BK151,BK152,HB⟩:=n_;(try clear hb);(try clear hb2);(try clear hk);(try clear hi);(try clear ho0);obtain ⟨Ao26,co26,eo26⟩:=Kd.R_slice HO164.out;subst eo26;have hcz27_0 : w25.cell? ⟨gb152,0,none⟩ = some (.slice Ao13 t153.length co13):=(blk_cell BK152.out 0).trans rfl;have hcz27_1 : w25.cell? ⟨gb152,1,none⟩ = some (.slice Ao18 t156.length co18):=(blk_cell BK152.out 1).trans rfl;have hcz27_2 : w25.cell? ⟨gb152,2,none⟩ = some (.slice Ao22 t159.length co22):=(blk_cell BK152.out 2).trans rfl;have hcz27_3 : w25.cell? ⟨gb152,3,none⟩ = some (.int .i64 a0_3):=(blk_cell BK152.out 3).trans rfl;have hcz27_4 : w25.cell? ⟨gb152,4,none⟩ = some (.slice none 0 0):=(blk_cell BK152.out 4).trans rfl;have hfz27_0:=blk_frozen BK152.out 0;have hfz27_1:=blk_frozen BK152.out 1;have hfz27_2:=blk_frozen BK152.out 2;have hfz27_3:=blk_frozen BK152.out 3;have hfz27_4:=blk_frozen BK152.out 4;have hcz28_0 : w25.cell? ⟨gb151,0,none⟩ = some (.slice none 0 0):=(blk_cell BK151.out 0).trans rfl;have hcz28_1 : w25.cell? ⟨gb151,1,none⟩ = some (.slice none 0 0):=(blk_cell BK151.out 1).trans rfl;have hcz28_2 : w25.cell? ⟨gb151,2,none⟩ = some (.slice none 0 0):=(blk_cell BK151.out 2).trans rfl;have hcz28_3 : w25.cell? ⟨gb151,3,none⟩ = some (.int .i64 0):=(blk_cell BK151.out 3).trans rfl;have hcz28_4 : w25.cell? ⟨gb151,4,none⟩ = some (.slice none 0 0):=(blk_cell BK151.out 4).trans rfl;have hfz28_0:=blk_frozen BK151.out 0;have hfz28_1:=blk_frozen BK151.out 1;have hfz28_2:=blk_frozen BK151.out 2;have hfz28_3:=blk_frozen BK151.out 3;have hfz28_4:=blk_frozen BK151.out 4))
 refine bodyPost_ret (results_cell_row rfl _ _ gb151 51 #[.slice Ao13 t153.length co13,.slice Ao18 t156.length co18,.slice Ao22 t159.length co22,.int .i64 a0_3,.slice Ao26 t162.length co26] (0,0) _ rfl (kq BK151) Try.underlying51 rfl (by kernel_rfl)) rfl ?_
 exact ⟨_,_,_,_,by first | rfl | (simp [errW_none,errW_some] <;> rfl) | (simp [*,errW_none,errW_some] <;> rfl),rfa HO155,rfa HO158,rfa HO161,rfa HO164,rbx HB⟩

/-! ### laws_eqItem: function 181 -/
def laws_eqItem.f (a0_0 : Int) (a0_1 : Int) (a0_2 : Int) (a0_3 : Int) (a1_0 : Int) (a1_1 : Int) (a1_2 : Int) (a1_3 : Int) : Option (Bool):=if a0_0 = a1_0 then (if a0_1 = a1_1 then (if a0_2 = a1_2 then (if a0_3 = a1_3 then (some true) else (some false)) else (some false)) else (some false)) else (some false)
set_option maxHeartbeats 8000000 in
theorem laws_eqItem.calls (a0_0 : Int) (a0_1 : Int) (a0_2 : Int) (a0_3 : Int) (a1_0 : Int) (a1_1 : Int) (a1_2 : Int) (a1_3 : Int) (r_ : Bool) (w : World) (h : laws_eqItem.f a0_0 a0_1 a0_2 a0_3 a1_0 a1_1 a1_2 a1_3 = some true) :
  Calls Try.prog 181 #[.agg #[.int .i64 a0_0,.int .i64 a0_1,.int .i64 a0_2,.int .i64 a0_3],.agg #[.int .i64 a1_0,.int .i64 a1_1,.int .i64 a1_2,.int .i64 a1_3]] w fun e w'=>e = .returned (.bool true)∧Below w.heap.size w w':=by
 have hu34:=Try.underlying34
 have HB:=ak (Below.refl w.heap.size w)
 have H:=h
 clear h
 unfold laws_eqItem.f at H
 by_cases c3 : a0_0 = a1_0
 rotate_left
 ·rw [if_neg c3] at H
  exact absurd H (by simp)
 rw [if_pos c3] at H
 have c3b0 : (a0_0 == a1_0) = true:=beq_iff_eq.mpr c3
 have c3b1 : (a0_0 != a1_0) = false:=bne_eq_false_iff_eq.mpr c3
 clear c3
 by_cases c4 : a0_1 = a1_1
 rotate_left
 ·rw [if_neg c4] at H
  exact absurd H (by simp)
 rw [if_pos c4] at H
 have c4b0 : (a0_1 == a1_1) = true:=beq_iff_eq.mpr c4
 have c4b1 : (a0_1 != a1_1) = false:=bne_eq_false_iff_eq.mpr c4
 clear c4
 by_cases c5 : a0_2 = a1_2
 rotate_left
 ·rw [if_neg c5] at H
  exact absurd H (by simp)
 rw [if_pos c5] at H
 have c5b0 : (a0_2 == a1_2) = true:=beq_iff_eq.mpr c5
 have c5b1 : (a0_2 != a1_2) = false:=bne_eq_false_iff_eq.mpr c5
 clear c5
 by_cases c6 : a0_3 = a1_3
 rotate_left
 ·rw [if_neg c6] at H
  exact absurd H (by simp)
 rw [if_pos c6] at H
 have c6b0 : (a0_3 == a1_3) = true:=beq_iff_eq.mpr c6
 have c6b1 : (a0_3 != a1_3) = false:=bne_eq_false_iff_eq.mpr c6
 clear c6
 (first | (obtain rfl:=Option.some.inj H) | clear H)
 go_enter Try.func181,Try.ntmps181
 go_wp2_with (first | ((with_reducible refine gate_dst (N:=2) rfl ?_);refine box_event ?hg (N:=2) ?hd (cs:=#[.int .i64 a0_0,.int .i64 a0_1,.int .i64 a0_2,.int .i64 a0_3]) (t:=34) ?hr ?_;(case hd=>rfl);(case hg=>rfl);(case hr=>first | (go_simp;done) | (go_simp;rfl));intro gb165 hg w7 hbox hb;have n_ : _∧_∧_∧_:=⟨kh HB hb,ak (hbox),kz HB hg,kz HB hg⟩;clear HB hb hbox hg;obtain ⟨HB,BK165,GW165,GE165⟩:=n_) | ((with_reducible refine gate_dst (N:=3) rfl ?_);refine box_event ?hg (N:=3) ?hd (cs:=#[.int .i64 a1_0,.int .i64 a1_1,.int .i64 a1_2,.int .i64 a1_3]) (t:=34) ?hr ?_;(case hd=>rfl);(case hg=>rfl);(case hr=>first | (go_simp;done) | (go_simp;rfl));intro gb166 hg w8 hbox hb;have n_ : _∧_∧_∧_∧_∧_∧_:=⟨kb BK165 hb,kh HB hb,ak (hbox),kz HB hg,kz HB hg,nl BK165 hg,ng BK165 hg⟩;clear BK165 HB hb hbox hg;obtain ⟨BK165,HB,BK166,GW166,GE166,NB165_166,NB166_165⟩:=n_;have hnb9:=NB165_166.out;have hnc9:=NB166_165.out;have hcz10_0 : w8.cell? ⟨gb165,0,none⟩ = some (.int .i64 a0_0):=(blk_cell BK165.out 0).trans rfl;have hcz10_1 : w8.cell? ⟨gb165,1,none⟩ = some (.int .i64 a0_1):=(blk_cell BK165.out 1).trans rfl;have hcz10_2 : w8.cell? ⟨gb165,2,none⟩ = some (.int .i64 a0_2):=(blk_cell BK165.out 2).trans rfl;have hcz10_3 : w8.cell? ⟨gb165,3,none⟩ = some (.int .i64 a0_3):=(blk_cell BK165.out 3).trans rfl;have hfz10_0:=blk_frozen BK165.out 0;have hfz10_1:=blk_frozen BK165.out 1;have hfz10_2:=blk_frozen BK165.out 2;have hfz10_3:=blk_frozen BK165.out 3;have hcz11_0 : w8.cell? ⟨gb166,0,none⟩ = some (.int .i64 a1_0):=(blk_cell BK166.out 0).trans rfl;have hcz11_1 : w8.cell? ⟨gb166,1,none⟩ = some (.int .i64 a1_1):=(blk_cell BK166.out 1).trans rfl;have hcz11_2 : w8.cell? ⟨gb166,2,none⟩ = some (.int .i64 a1_2):=(blk_cell BK166.out 2).trans rfl;have hcz11_3 : w8.cell? ⟨gb166,3,none⟩ = some (.int .i64 a1_3):=(blk_cell BK166.out 3).trans rfl;have hfz11_0:=blk_frozen BK166.out 0;have hfz11_1:=blk_frozen BK166.out 1;have hfz11_2:=blk_frozen BK166.out 2;have hfz11_3:=blk_frozen BK166.out 3))
 go_ret
 exact ⟨by first | rfl | (simp [errW_none,errW_some] <;> rfl) | (simp [*,errW_none,errW_some] <;> rfl),rbx HB⟩

/-! ### laws_eqEntry: function 132 -/
def laws_eqEntry.f (a0_0 : Int) (a0_1 : Int) (a0_2 : Int) (a0_3 : Int) (a0_4 : Int) (a0_5 : Int) (a1_0 : Int) (a1_1 : Int) (a1_2 : Int) (a1_3 : Int) (a1_4 : Int) (a1_5 : Int) : Option (Bool):=if a0_0 = a1_0 then (if a0_1 = a1_1 then ((laws_eqItem.f a0_2 a0_3 a0_4 a0_5 a1_2 a1_3 a1_4 a1_5).bind fun t169=>(if t169 = true then (some true) else (some false))) else (some false)) else (some false)
set_option maxHeartbeats 8000000 in
theorem laws_eqEntry.calls (a0_0 : Int) (a0_1 : Int) (a0_2 : Int) (a0_3 : Int) (a0_4 : Int) (a0_5 : Int) (a1_0 : Int) (a1_1 : Int) (a1_2 : Int) (a1_3 : Int) (a1_4 : Int) (a1_5 : Int) (r_ : Bool) (w : World) (h : laws_eqEntry.f a0_0 a0_1 a0_2 a0_3 a0_4 a0_5 a1_0 a1_1 a1_2 a1_3 a1_4 a1_5 = some true) :
  Calls Try.prog 132 #[.agg #[.int .i64 a0_0,.int .i64 a0_1,.int .i64 a0_2,.int .i64 a0_3,.int .i64 a0_4,.int .i64 a0_5],.agg #[.int .i64 a1_0,.int .i64 a1_1,.int .i64 a1_2,.int .i64 a1_3,.int .i64 a1_4,.int .i64 a1_5]] w fun e w'=>e = .returned (.bool true)∧Below w.heap.size w w':=by
 have hu134:=Try.underlying134
 have hu34:=Try.underlying34
 have HB:=ak (Below.refl w.heap.size w)
 have H:=h
 clear h
 unfold laws_eqEntry.f at H
 by_cases c3 : a0_0 = a1_0
 rotate_left
 ·rw [if_neg c3] at H
  exact absurd H (by simp)
 rw [if_pos c3] at H
 have c3b0 : (a0_0 == a1_0) = true:=beq_iff_eq.mpr c3
 have c3b1 : (a0_0 != a1_0) = false:=bne_eq_false_iff_eq.mpr c3
 clear c3
 by_cases c4 : a0_1 = a1_1
 rotate_left
 ·rw [if_neg c4] at H
  exact absurd H (by simp)
 rw [if_pos c4] at H
 have c4b0 : (a0_1 == a1_1) = true:=beq_iff_eq.mpr c4
 have c4b1 : (a0_1 != a1_1) = false:=bne_eq_false_iff_eq.mpr c4
 clear c4
 replace H:=Option.bind_eq_some_iff.mp H
 obtain ⟨t169,A50,H⟩:=H
 try dsimp only at H
 have A5:=ak A50
 clear A50
 by_cases c6 : t169 = true
 rotate_left
 ·replace c6:=Bool.eq_false_iff.mpr c6
  subst c6
  have H1 : (some false) = some true:=by rw [if_neg (show ¬ (false = true) by decide)] at H;exact H
  exact absurd H1 (by simp)
 subst c6
 have H1 : (some true) = some true:=rfl
 clear H
 have H:=H1
 clear H1
 (first | (obtain rfl:=Option.some.inj H) | clear H)
 go_enter Try.func132,Try.ntmps132
 go_wp2_with (first | ((with_reducible refine gate_dst (N:=2) rfl ?_);refine box_event ?hg (N:=2) ?hd (cs:=#[.int .i64 a0_0,.int .i64 a0_1,.int .i64 a0_2,.int .i64 a0_3,.int .i64 a0_4,.int .i64 a0_5]) (t:=134) ?hr ?_;(case hd=>rfl);(case hg=>rfl);(case hr=>first | (go_simp;done) | (go_simp;rfl));intro gb167 hg w7 hbox hb;have n_ : _∧_∧_∧_:=⟨kh HB hb,ak (hbox),kz HB hg,kz HB hg⟩;clear HB hb hbox hg;obtain ⟨HB,BK167,GW167,GE167⟩:=n_) | ((with_reducible refine gate_dst (N:=3) rfl ?_);refine box_event ?hg (N:=3) ?hd (cs:=#[.int .i64 a1_0,.int .i64 a1_1,.int .i64 a1_2,.int .i64 a1_3,.int .i64 a1_4,.int .i64 a1_5]) (t:=134) ?hr ?_;(case hd=>rfl);(case hg=>rfl);(case hr=>first | (go_simp;done) | (go_simp;rfl));intro gb168 hg w8 hbox hb;have n_ : _∧_∧_∧_∧_∧_∧_:=⟨kb BK167 hb,kh HB hb,ak (hbox),kz HB hg,kz HB hg,nl BK167 hg,ng BK167 hg⟩;clear BK167 HB hb hbox hg;obtain ⟨BK167,HB,BK168,GW168,GE168,NB167_168,NB168_167⟩:=n_;have hnb9:=NB167_168.out;have hnc9:=NB168_167.out;have hcz10_0 : w8.cell? ⟨gb167,0,none⟩ = some (.int .i64 a0_0):=(blk_cell BK167.out 0).trans rfl;have hcz10_1 : w8.cell? ⟨gb167,1,none⟩ = some (.int .i64 a0_1):=(blk_cell BK167.out 1).trans rfl;have hcz10_2 : w8.cell? ⟨gb167,2,none⟩ = some (.int .i64 a0_2):=(blk_cell BK167.out 2).trans rfl;have hcz10_3 : w8.cell? ⟨gb167,3,none⟩ = some (.int .i64 a0_3):=(blk_cell BK167.out 3).trans rfl;have hcz10_4 : w8.cell? ⟨gb167,4,none⟩ = some (.int .i64 a0_4):=(blk_cell BK167.out 4).trans rfl;have hcz10_5 : w8.cell? ⟨gb167,5,none⟩ = some (.int .i64 a0_5):=(blk_cell BK167.out 5).trans rfl;have hfz10_0:=blk_frozen BK167.out 0;have hfz10_1:=blk_frozen BK167.out 1;have hfz10_2:=blk_frozen BK167.out 2;have hfz10_3:=blk_frozen BK167.out 3;have hfz10_4:=blk_frozen BK167.out 4;have hfz10_5:=blk_frozen BK167.out 5;have hcz11_0 : w8.cell? ⟨gb168,0,none⟩ = some (.int .i64 a1_0):=(blk_cell BK168.out 0).trans rfl;have hcz11_1 : w8.cell? ⟨gb168,1,none⟩ = some (.int .i64 a1_1):=(blk_cell BK168.out 1).trans rfl;have hcz11_2 : w8.cell? ⟨gb168,2,none⟩ = some (.int .i64 a1_2):=(blk_cell BK168.out 2).trans rfl;have hcz11_3 : w8.cell? ⟨gb168,3,none⟩ = some (.int .i64 a1_3):=(blk_cell BK168.out 3).trans rfl;have hcz11_4 : w8.cell? ⟨gb168,4,none⟩ = some (.int .i64 a1_4):=(blk_cell BK168.out 4).trans rfl;have hcz11_5 : w8.cell? ⟨gb168,5,none⟩ = some (.int .i64 a1_5):=(blk_cell BK168.out 5).trans rfl;have hfz11_0:=blk_frozen BK168.out 0;have hfz11_1:=blk_frozen BK168.out 1;have hfz11_2:=blk_frozen BK168.out 2;have hfz11_3:=blk_frozen BK168.out 3;have hfz11_4:=blk_frozen BK168.out 4;have hfz11_5:=blk_frozen BK168.out 5) | ((with_reducible refine gc (f:=181) rfl ?_);refine gl (some 19) Try.func181 #[.agg #[.int .i64 a0_2,.int .i64 a0_3,.int .i64 a0_4,.int .i64 a0_5],.agg #[.int .i64 a1_2,.int .i64 a1_3,.int .i64 a1_4,.int .i64 a1_5]] ?_;(with_reducible refine (laws_eqItem.calls a0_2 a0_3 a0_4 a0_5 a1_2 a1_3 a1_4 a1_5 true _ A5.out).mono ?_);rintro e w12 ⟨rfl,hb⟩;refine ⟨_,rfl,?_⟩;have n_ : _∧_∧_:=⟨kb BK167 hb,kb BK168 hb,kh HB hb⟩;clear BK167 BK168 HB;obtain ⟨BK167,BK168,HB⟩:=n_;(try clear hb);(try clear hb2);(try clear hk);(try clear hi)))
 go_ret
 exact ⟨by first | rfl | (simp [errW_none,errW_some] <;> rfl) | (simp [*,errW_none,errW_some] <;> rfl),rbx HB⟩

end Go.Proofs.Ythdeicbkimlnhaa.PFnExactKept
