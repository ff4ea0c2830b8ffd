import Derived.Test.YthdeicbkimlnhaaSi
import Derived.Test.YthdeicbkimlnhaaPFnExactKeptx0
import Derived.Test.YthdeicbkimlnhaaPFnExactKeptx2
import Derived.Test.YthdeicbkimlnhaaPFnExactKeptx4
import Derived.Test.YthdeicbkimlnhaaPFnExactKeptx7
import Derived.Test.YthdeicbkimlnhaaPFnExactKeptx10
import Derived.Test.YthdeicbkimlnhaaPFnExactKeptx11
import Derived.Test.YthdeicbkimlnhaaPFnExactKeptx12
namespace Go.Proofs.Ythdeicbkimlnhaa.PFnExactKept
open Go.RowKit Go.Proofs.YthdeicbkimlnhaaW.PrintWords Go.Proofs.YthdeicbkimlnhaaW.PrintLast Go.Proofs.YthdeicbkimlnhaaW.PrintMore Go.Proofs.YthdeicbkimlnhaaH
attribute [local go_sem] max2_int min2_int max_two min_two max_three min_three max_four min_four   -- for this text's walks alone
set_option linter.unusedVariables false
set_option linter.unusedSimpArgs false
set_option maxRecDepth 100000

/-! ### laws_FnExactKept: function 12 -/
mutual
def laws_FnExactKept.j0 : Nat→Bool→Bool→Bool→List (S175)→List Int→List (S177)→Int→List Int→Int→Int→Int→Int→Int→Int→Int→List (S134)→List Int→List (S127)→Int→List Int→List (S134)→List Int→List (S127)→Int→List Int→List (S134)→List Int→List (S127)→Int→List Int→Option (Bool)
 | 0,_,_,_,_,_,_,_,_,_,_,_,_,_,_,_,_,_,_,_,_,_,_,_,_,_,_,_,_,_,_=>none
 | k + 1,x7,x10,x46,x408000,x408001,x408002,x408003,x408004,x409000,x409001,x409002,x409003,x409004,x409005,x409006,x445000,x445001,x445002,x445003,x445004,x459000,x459001,x459002,x459003,x459004,x481000,x481001,x481002,x481003,x481004=>if x46 = true then (some false) else ((laws_toKeeper.f k x408000 x408001 x408002 x408003 x408004).bind fun bt482=>((laws_eqKeeper.f k x459000 x459001 x459002 x459003 x459004 bt482.1 bt482.2.1 bt482.2.2.1 bt482.2.2.2.1 bt482.2.2.2.2).bind fun t495=>(if t495 = true then ((laws_markKeeper.f k x459000 x459001 x459002 x459003 x459004 1).bind fun bt496=>(if bt496.1 < 0 then (laws_FnExactKept.j1 k x7 true x408000 x408001 x408002 x408003 x408004 x409000 x409001 x409002 x409003 x409004 x409005 x409006 x445000 x445001 x445002 x445003 x445004 x481000 x481001 x481002 x481003 x481004) else ((laws_eqKeeper.f k x481000 x481001 x481002 x481003 x481004 x445000 x445001 x445002 x445003 x445004).bind fun t501=>(if t501 = true then (laws_FnExactKept.j1 k x7 (x10 != x7) x408000 x408001 x408002 x408003 x408004 x409000 x409001 x409002 x409003 x409004 x409005 x409006 x445000 x445001 x445002 x445003 x445004 x481000 x481001 x481002 x481003 x481004) else (laws_FnExactKept.j1 k x7 true x408000 x408001 x408002 x408003 x408004 x409000 x409001 x409002 x409003 x409004 x409005 x409006 x445000 x445001 x445002 x445003 x445004 x481000 x481001 x481002 x481003 x481004))))) else (some false))))
def laws_FnExactKept.j1 : Nat→Bool→Bool→List (S175)→List Int→List (S177)→Int→List Int→Int→Int→Int→Int→Int→Int→Int→List (S134)→List Int→List (S127)→Int→List Int→List (S134)→List Int→List (S127)→Int→List Int→Option (Bool)
 | 0,_,_,_,_,_,_,_,_,_,_,_,_,_,_,_,_,_,_,_,_,_,_,_,_=>none
 | k + 1,x7,x67,x408000,x408001,x408002,x408003,x408004,x409000,x409001,x409002,x409003,x409004,x409005,x409006,x445000,x445001,x445002,x445003,x445004,x481000,x481001,x481002,x481003,x481004=>if x67 = true then (some false) else ((laws_markKeeper.f k x481000 x481001 x481002 x481003 x481004 1).bind fun bt502=>((laws_heldKeeper.f k bt502.2.1 bt502.2.2.1 bt502.2.2.2.1 x481003 bt502.2.2.2.2 1).bind fun t507=>(if t507 < 0 then (some false) else (if t507 = bt502.1 then ((laws_toKeeper.f k x408000 x408001 x408002 x408003 x408004).bind fun bt508=>((laws_toFrame.f x409000 x409001 x409002 x409003 x409004 x409005 x409006).bind fun bt521=>((impl_Kept.f k bt508.1 bt508.2.1 bt508.2.2.1 bt508.2.2.2.1 bt508.2.2.2.2 bt521.1 bt521.2.1 bt521.2.2.1 bt521.2.2.2.1 bt521.2.2.2.2.1 bt521.2.2.2.2.2.1 bt521.2.2.2.2.2.2).bind fun bt528=>((laws_eqKeeper.f k bt528.1 bt528.2.1 bt528.2.2.1 bt528.2.2.2.1 bt528.2.2.2.2.1 x445000 x445001 x445002 x445003 x445004).bind fun t543=>(if t543 = true then (laws_FnExactKept.j2 k bt502.1 (bt528.2.2.2.2.2 != x7) bt502.2.1 bt502.2.2.1 bt502.2.2.2.1 x481003 bt502.2.2.2.2) else (laws_FnExactKept.j2 k bt502.1 true bt502.2.1 bt502.2.2.1 bt502.2.2.2.1 x481003 bt502.2.2.2.2)))))) else (some false)))))
def laws_FnExactKept.j2 : Nat→Int→Bool→List (S134)→List Int→List (S127)→Int→List Int→Option (Bool)
 | 0,_,_,_,_,_,_,_=>none
 | k + 1,x12,x95,x481000,x481001,x481002,x481003,x481004=>if x95 = true then (some false) else ((laws_heldKeeper.f k x481000 x481001 x481002 x481003 x481004 1).bind fun t544=>(if t544 < 0 then (some false) else (if t544 = x12 then (some true) else (some false))))
end
def laws_FnExactKept.f (k : Nat) (l0_0 : List (S175)) (l0_1 : List Int) (l0_2 : List (S177)) (a0_3 : Int) (l0_4 : List Int) (a1_0 : Int) (a1_1 : Int) (a1_2 : Int) (a1_3 : Int) (a1_4 : Int) (a1_5 : Int) (a1_6 : Int) : Option (Bool):=(laws_szKeeper.f l0_0 l0_1 l0_2 a0_3 l0_4 1048576).bind fun t409=>(if t409 < 0 then (some true) else ((laws_toKeeper.f k l0_0 l0_1 l0_2 a0_3 l0_4).bind fun bt410=>((laws_toFrame.f a1_0 a1_1 a1_2 a1_3 a1_4 a1_5 a1_6).bind fun bt423=>((spec_Kept.f k bt410.1 bt410.2.1 bt410.2.2.1 bt410.2.2.2.1 bt410.2.2.2.2 bt423.1 bt423.2.1 bt423.2.2.1 bt423.2.2.2.1 bt423.2.2.2.2.1 bt423.2.2.2.2.2.1 bt423.2.2.2.2.2.2).bind fun bt430=>((laws_toKeeper.f k l0_0 l0_1 l0_2 a0_3 l0_4).bind fun bt445=>((laws_toFrame.f a1_0 a1_1 a1_2 a1_3 a1_4 a1_5 a1_6).bind fun bt459=>((impl_Kept.f k bt445.1 bt445.2.1 bt445.2.2.1 bt445.2.2.2.1 bt445.2.2.2.2 bt459.1 bt459.2.1 bt459.2.2.1 bt459.2.2.2.1 bt459.2.2.2.2.1 bt459.2.2.2.2.2.1 bt459.2.2.2.2.2.2).bind fun bt466=>((laws_eqKeeper.f k bt466.1 bt466.2.1 bt466.2.2.1 bt466.2.2.2.1 bt466.2.2.2.2.1 bt430.1 bt430.2.1 bt430.2.2.1 bt430.2.2.2.1 bt430.2.2.2.2.1).bind fun t481=>(if t481 = true then (laws_FnExactKept.j0 k bt430.2.2.2.2.2 bt466.2.2.2.2.2 (bt466.2.2.2.2.2 != bt430.2.2.2.2.2) l0_0 l0_1 l0_2 a0_3 l0_4 a1_0 a1_1 a1_2 a1_3 a1_4 a1_5 a1_6 bt430.1 bt430.2.1 bt430.2.2.1 bt430.2.2.2.1 bt430.2.2.2.2.1 bt445.1 bt445.2.1 bt445.2.2.1 bt445.2.2.2.1 bt445.2.2.2.2 bt466.1 bt466.2.1 bt466.2.2.1 bt466.2.2.2.1 bt466.2.2.2.2.1) else (laws_FnExactKept.j0 k bt430.2.2.2.2.2 bt466.2.2.2.2.2 true l0_0 l0_1 l0_2 a0_3 l0_4 a1_0 a1_1 a1_2 a1_3 a1_4 a1_5 a1_6 bt430.1 bt430.2.1 bt430.2.2.1 bt430.2.2.2.1 bt430.2.2.2.2.1 bt445.1 bt445.2.1 bt445.2.2.1 bt445.2.2.2.1 bt445.2.2.2.2 bt466.1 bt466.2.1 bt466.2.2.1 bt466.2.2.2.1 bt466.2.2.2.2.1))))))))))
theorem laws_FnExactKept.mono_l : ∀ k,(∀ y0 y1 y2 y3 y4 y5 y6 y7 y8 y9 y10 y11 y12 y13 y14 y15 y16 y17 y18 y19 y20 y21 y22 y23 y24 y25 y26 y27 y28 y29,LeO (laws_FnExactKept.j0 k y0 y1 y2 y3 y4 y5 y6 y7 y8 y9 y10 y11 y12 y13 y14 y15 y16 y17 y18 y19 y20 y21 y22 y23 y24 y25 y26 y27 y28 y29) (laws_FnExactKept.j0 (k + 1) y0 y1 y2 y3 y4 y5 y6 y7 y8 y9 y10 y11 y12 y13 y14 y15 y16 y17 y18 y19 y20 y21 y22 y23 y24 y25 y26 y27 y28 y29))∧(∀ y0 y1 y2 y3 y4 y5 y6 y7 y8 y9 y10 y11 y12 y13 y14 y15 y16 y17 y18 y19 y20 y21 y22 y23,LeO (laws_FnExactKept.j1 k y0 y1 y2 y3 y4 y5 y6 y7 y8 y9 y10 y11 y12 y13 y14 y15 y16 y17 y18 y19 y20 y21 y22 y23) (laws_FnExactKept.j1 (k + 1) y0 y1 y2 y3 y4 y5 y6 y7 y8 y9 y10 y11 y12 y13 y14 y15 y16 y17 y18 y19 y20 y21 y22 y23))∧(∀ y0 y1 y2 y3 y4 y5 y6,LeO (laws_FnExactKept.j2 k y0 y1 y2 y3 y4 y5 y6) (laws_FnExactKept.j2 (k + 1) y0 y1 y2 y3 y4 y5 y6))
 | 0=>⟨fun _ _ _ _ _ _ _ _ _ _ _ _ _ _ _ _ _ _ _ _ _ _ _ _ _ _ _ _ _ _ r h=>by simp [laws_FnExactKept.j0] at h,fun _ _ _ _ _ _ _ _ _ _ _ _ _ _ _ _ _ _ _ _ _ _ _ _ r h=>by simp [laws_FnExactKept.j1] at h,fun _ _ _ _ _ _ _ r h=>by simp [laws_FnExactKept.j2] at h⟩
 | k + 1=>by
  obtain ⟨ih0,ih1,ih2⟩:=laws_FnExactKept.mono_l k
  refine ⟨?_,?_,?_⟩
  ·intro y0 y1 y2 y3 y4 y5 y6 y7 y8 y9 y10 y11 y12 y13 y14 y15 y16 y17 y18 y19 y20 y21 y22 y23 y24 y25 y26 y27 y28 y29
   unfold laws_FnExactKept.j0
   repeat' first
   | (with_reducible apply ih0)
   | (with_reducible apply ih1)
   | (with_reducible apply ih2)
   | (with_reducible apply impl_Kept.mono)
   | (with_reducible apply laws_eqKeeper.mono)
   | (with_reducible apply laws_heldKeeper.mono)
   | (with_reducible apply laws_markKeeper.mono)
   | (with_reducible apply laws_toKeeper.mono)
   | (with_reducible apply spec_Kept.mono)
   | (with_reducible exact LeO.refl _)
   | (with_reducible exact LeO.none _)
   | (with_reducible refine LeO.ite ?_ ?_)
   | (with_reducible refine LeO.bind ?_ (fun _=>?_))
   | apply ih0
   | apply ih1
   | apply ih2
   | apply impl_Kept.mono
   | apply laws_eqKeeper.mono
   | apply laws_heldKeeper.mono
   | apply laws_markKeeper.mono
   | apply laws_toKeeper.mono
   | apply spec_Kept.mono
   | exact LeO.none _
   | refine LeO.ite ?_ ?_
   | refine LeO.bind ?_ (fun _=>?_)
  ·intro y0 y1 y2 y3 y4 y5 y6 y7 y8 y9 y10 y11 y12 y13 y14 y15 y16 y17 y18 y19 y20 y21 y22 y23
   unfold laws_FnExactKept.j1
   repeat' first
   | (with_reducible apply ih0)
   | (with_reducible apply ih1)
   | (with_reducible apply ih2)
   | (with_reducible apply impl_Kept.mono)
   | (with_reducible apply laws_eqKeeper.mono)
   | (with_reducible apply laws_heldKeeper.mono)
   | (with_reducible apply laws_markKeeper.mono)
   | (with_reducible apply laws_toKeeper.mono)
   | (with_reducible apply spec_Kept.mono)
   | (with_reducible exact LeO.refl _)
   | (with_reducible exact LeO.none _)
   | (with_reducible refine LeO.ite ?_ ?_)
   | (with_reducible refine LeO.bind ?_ (fun _=>?_))
   | apply ih0
   | apply ih1
   | apply ih2
   | apply impl_Kept.mono
   | apply laws_eqKeeper.mono
   | apply laws_heldKeeper.mono
   | apply laws_markKeeper.mono
   | apply laws_toKeeper.mono
   | apply spec_Kept.mono
   | exact LeO.none _
   | refine LeO.ite ?_ ?_
   | refine LeO.bind ?_ (fun _=>?_)
  ·intro y0 y1 y2 y3 y4 y5 y6
   unfold laws_FnExactKept.j2
   repeat' first
   | (with_reducible apply ih0)
   | (with_reducible apply ih1)
   | (with_reducible apply ih2)
   | (with_reducible apply impl_Kept.mono)
   | (with_reducible apply laws_eqKeeper.mono)
   | (with_reducible apply laws_heldKeeper.mono)
   | (with_reducible apply laws_markKeeper.mono)
   | (with_reducible apply laws_toKeeper.mono)
   | (with_reducible apply spec_Kept.mono)
   | (with_reducible exact LeO.refl _)
   | (with_reducible exact LeO.none _)
   | (with_reducible refine LeO.ite ?_ ?_)
   | (with_reducible refine LeO.bind ?_ (fun _=>?_))
   | apply ih0
   | apply ih1
   | apply ih2
   | apply impl_Kept.mono
   | apply laws_eqKeeper.mono
   | apply laws_heldKeeper.mono
   | apply laws_markKeeper.mono
   | apply laws_toKeeper.mono
   | apply spec_Kept.mono
   | exact LeO.none _
   | refine LeO.ite ?_ ?_
   | refine LeO.bind ?_ (fun _=>?_)
theorem laws_FnExactKept.mono : ∀ a0 a1 a2 a3 a4 a5 a6 a7 a8 a9 a10 a11 k,LeO (laws_FnExactKept.f k a0 a1 a2 a3 a4 a5 a6 a7 a8 a9 a10 a11) (laws_FnExactKept.f (k + 1) a0 a1 a2 a3 a4 a5 a6 a7 a8 a9 a10 a11):=by
 intro a0 a1 a2 a3 a4 a5 a6 a7 a8 a9 a10 a11 k
 obtain ⟨ih0,ih1,ih2⟩:=laws_FnExactKept.mono_l k
 unfold laws_FnExactKept.f
 repeat' first
   | (with_reducible apply ih0)
   | (with_reducible apply ih1)
   | (with_reducible apply ih2)
   | (with_reducible apply impl_Kept.mono)
   | (with_reducible apply laws_eqKeeper.mono)
   | (with_reducible apply laws_heldKeeper.mono)
   | (with_reducible apply laws_markKeeper.mono)
   | (with_reducible apply laws_toKeeper.mono)
   | (with_reducible apply spec_Kept.mono)
   | (with_reducible exact LeO.refl _)
   | (with_reducible exact LeO.none _)
   | (with_reducible refine LeO.ite ?_ ?_)
   | (with_reducible refine LeO.bind ?_ (fun _=>?_))
   | apply ih0
   | apply ih1
   | apply ih2
   | apply impl_Kept.mono
   | apply laws_eqKeeper.mono
   | apply laws_heldKeeper.mono
   | apply laws_markKeeper.mono
   | apply laws_toKeeper.mono
   | apply spec_Kept.mono
   | exact LeO.none _
   | refine LeO.ite ?_ ?_
   | refine LeO.bind ?_ (fun _=>?_)
def laws_FnExactKept.T5 : Bool × List (List Nat × List Nat):=(true,[([],[]),([0],[0]),([],[]),([2,1],[2]),([1,3,3],[1,3]),([4],[4]),([5],[5]),([5],[5]),([],[]),([8,6,4,0,1,2,3,4,5,6,8],[6,8]),([7,9,0,1,2,3,4,5,6,7,8,9],[7])])
def laws_FnExactKept.B5 : List Nat:=[0,1,0,7,15,31,63,63,0,383,1023]
theorem laws_FnExactKept.tab5 : rtab .any (opsOf Try.f12 5) = laws_FnExactKept.T5:=by kernel_rfl
theorem laws_FnExactKept.bits5 : waitsOk laws_FnExactKept.T5.2 laws_FnExactKept.B5 = true:=by kernel_rfl
def laws_FnExactKept.T7 : Bool × List (List Nat × List Nat):=(true,[([],[]),([],[]),([1],[1]),([0,2,2],[0,2]),([3],[3]),([4],[4]),([4],[4]),([],[]),([7,5,3,0,1,2,3,4,5,7],[5,7]),([6,8,0,1,2,3,4,5,6,7,8],[6])])
def laws_FnExactKept.B7 : List Nat:=[0,0,2,7,15,31,31,0,191,511]
theorem laws_FnExactKept.tab7 : rtab .any (opsOf Try.f12 7) = laws_FnExactKept.T7:=by kernel_rfl
theorem laws_FnExactKept.bits7 : waitsOk laws_FnExactKept.T7.2 laws_FnExactKept.B7 = true:=by kernel_rfl
def laws_FnExactKept.T24 : Bool × List (List Nat × List Nat):=(true,[([],[]),([0],[0]),([],[]),([2,1],[2]),([1,3,3],[1,3]),([4],[4]),([5],[5]),([5],[5]),([],[]),([8,6,4,0,1,2,3,4,5,6,8],[6,8]),([7,9,0,1,2,3,4,5,6,7,8,9],[7])])
def laws_FnExactKept.B24 : List Nat:=[0,1,0,7,15,31,63,63,0,383,1023]
theorem laws_FnExactKept.tab24 : rtab .any (opsOf Try.f12 24) = laws_FnExactKept.T24:=by kernel_rfl
theorem laws_FnExactKept.bits24 : waitsOk laws_FnExactKept.T24.2 laws_FnExactKept.B24 = true:=by kernel_rfl
end Go.Proofs.Ythdeicbkimlnhaa.PFnExactKept
