import Derived.Test.YtahmbcgolnplgaaGreatPFnNoHolesx6
set_option linter.unusedVariables false
set_option linter.unusedSimpArgs false
set_option autoImplicit true
set_option relaxedAutoImplicit true
set_option maxRecDepth 100000
set_option maxHeartbeats 4000000
namespace Go.Proofs.YtahmbcgolnplgaaGreat.PFnNoHoles
open Go Go.RowKit Go.Proofs.YtahmbcgolnplgaaGreatA
def J5.j0 : Nat→Int→Int→(List u5)→Int→Int→(List u5)→Int→Int→Int→Int→((List u5)×Int×Int×Int×Int×Int×Int×Int×Bool)→Bool→Y7
 | 0,_,_,_,_,_,_,_,_,_,_,_,_=>none
 | q + 1,e,g,h,i,j,k,l,m,n,o,a,p=>if p = true then ((F3.f e g h i j).bind fun b=>((I8.f k l m n).bind fun c=>some (b.1,b.2.1,b.2.2.1,b.2.2.2.1,b.2.2.2.2,c.1,c.2.1,c.2.2.1,c.2.2.2,false))) else (F3.f e g h i j).bind fun d=>if d.2.2.1.length + ([(⟨a.2.2.2.2.1,a.2.2.2.2.2.1,a.2.2.2.2.2.2.1,a.2.2.2.2.2.2.2.1⟩ : u5)] : List u5).length < 4398046511104 then some (d.1,d.2.1,d.2.2.1 ++ ([(⟨a.2.2.2.2.1,a.2.2.2.2.2.1,a.2.2.2.2.2.2.1,a.2.2.2.2.2.2.2.1⟩ : u5)] : List u5),o,1,a.1,a.2.1,a.2.2.1,a.2.2.2.1,true) else none
def J5.f (k : Nat) (g : Int) (h : Int) (a : List u5) (i : Int) (j : Int) (b : List u5) (c : Int) (d : Int) (e : Int) (l : Int) : Y7:=(ab3.f b c d e).bind fun m=>(L8.f k g h a i j).bind fun n=>(if n = true then ((H6.f k b c d e).bind fun o=>(if o = true then (if (a.length : Int) = 3 then J5.j0 k g h a i j b c d e l m true else (if m.2.2.2.2.2.2.2.2 = true then ((j8.f l 0 1000000000).bind fun p=>J5.j0 k g h a i j b c d e l m (!p)) else J5.j0 k g h a i j b c d e l m true)) else J5.j0 k g h a i j b c d e l m true)) else J5.j0 k g h a i j b c d e l m true)
theorem J5.ok (H : J5.f k h i j l m n o p q s = some r) : j7 Tryz.prog 130 [] [.agg [.lit (.int .i64 h),.lit (.int .i64 i),.sl .o 4 (j.map I1),.lit (.int .i64 l),.lit (.int .i64 m)],.agg [.sl .o 4 (n.map I1),.lit (.int .i64 o),.lit (.int .i64 p),.lit (.int .i64 q)],.lit (.int .i64 s)] [(0,.row 46 4 (r.2.2.1.map I1)),(1,.row 46 4 (r.2.2.2.2.2.1.map I1))] (.tup [.agg [.lit (.int .i64 r.1),.lit (.int .i64 r.2.1),.row 0,.lit (.int .i64 r.2.2.2.1),.lit (.int .i64 r.2.2.2.2.1)],.agg [.row 1,.lit (.int .i64 r.2.2.2.2.2.2.1),.lit (.int .i64 r.2.2.2.2.2.2.2.1),.lit (.int .i64 r.2.2.2.2.2.2.2.2.1)],.lit (.bool r.2.2.2.2.2.2.2.2.2)]):=by
 refine u3 59 Tryz.func130 fun E hE=>?_
 rw [J5.f] at H
 refine d8<|c9<|k1 (K2 0)<|k1 (K2 1)<|k1 (al 2)<|k1 (al 3) ?_
 refine rn rfl<|d9<|c8<|d8<|c9<|rn rfl ?_
 obtain ⟨a,v,H⟩:=f6 H
 refine kC (cl (ab3.ok v) [4]) ?_
 refine rn rfl<|k1 (al 5)<|k1 (al 6) ?_
 refine rn rfl<|d9<|c8<|d8 ?_
 refine H0 (J:=Jc1 E 59 r k (fun k=>J5.j0 k h i j l m n o p q s a) (fun u=>⟨[(2,.lit (.int .i64 s)),(3,.box 0 0),(4,.box 1 0),(6,.box 2 0),(7,.box 3 0),(9,.box 5 0),(10,.box 6 0),(41,.lit (.bool u))],[(0,.box 48 [.lit (.int .i64 h),.lit (.int .i64 i),.sl .o 4 (j.map I1),.lit (.int .i64 l),.lit (.int .i64 m)]),(1,.box 50 [.sl .o 4 (n.map I1),.lit (.int .i64 o),.lit (.int .i64 p),.lit (.int .i64 q)]),(2,.box 48 [.lit (.int .i64 0),.lit (.int .i64 0),.lit (.slice none 0 0),.lit (.int .i64 0),.lit (.int .i64 0)]),(3,.box 50 [.lit (.slice none 0 0),.lit (.int .i64 0),.lit (.int .i64 0),.lit (.int .i64 0)]),(4,.row 46 4 (a.1.map I1)),(5,.box 50 [.row 4,.lit (.int .i64 a.2.1),.lit (.int .i64 a.2.2.1),.lit (.int .i64 a.2.2.2.1)]),(6,.box 46 [.lit (.int .i64 a.2.2.2.2.1),.lit (.int .i64 a.2.2.2.2.2.1),.lit (.int .i64 a.2.2.2.2.2.2.1),.lit (.int .i64 a.2.2.2.2.2.2.2.1)])]⟩)) ?_ ?_
 ·intro G g
  refine c9<|rn rfl ?_
  obtain ⟨I,w,H⟩:=f6 H
  refine kC (cl (L8.ok w) []) ?_
  refine rn rfl ?_
  obtain ⟨c,H⟩|⟨c,H⟩:=oi H
  ·refine kv (g1 (nF c)) (bA 4) ?_
   obtain ⟨K,x,H⟩:=f6 H
   refine N5 (g1 (nF c)) (cl (H6.ok x) [])<|kv (g1 (nF c)) V4 ?_
   refine k0 (n8 (nF c)) ?_
   refine rn rfl ?_
   obtain ⟨b,H⟩|⟨b,H⟩:=oi H
   ·refine kv (g1 (nF b)) (y8 2 2)<|kv (g1 (nF b)) B5<|kv (g1 (nF b)) (G3 v7)<|kv (g1 (nF b)) eql ?_
    refine k0 (n8 (nF b)) ?_
    refine rn rfl ?_
    obtain ⟨e,H⟩|⟨e,H⟩:=oi H
    ·iterate 2 refine kx (hF (eT e)) ?_
     refine k0 (o8 (eT e)) ?_
     refine rn rfl ?_
     iterate 3 refine kx (hF rfl) ?_
     refine k0 (o8 rfl)<|d9<|l6 ?_
     exact aw hE [] (g.u (Nat.le_refl _) H)
    refine kv (g1 (eF e)) mv<|kv (g1 (eF e)) V4 ?_
    refine k0 (n8 (eF e)) ?_
    refine rn rfl ?_
    obtain ⟨d,H⟩|⟨d,H⟩:=oi H
    ·refine kv (g1 (nF d)) mv ?_
     obtain ⟨L,y,H⟩:=f6 H
     refine N5 (g1 (nF d)) (cl (j8.ok y) [])<|kv (g1 (nF d)) V4 ?_
     refine k0 (n8 (nF d))<|d9<|l6 ?_
     exact aw hE [] (g.u (Nat.le_refl _) H)
    iterate 3 refine kx (hF (nT (bF d))) ?_
    refine k0 (o8 (nT (bF d)))<|d9<|l6 ?_
    exact aw hE [] (g.u (Nat.le_refl _) H)
   iterate 4 refine kx (hF (nT (bF b))) ?_
   refine k0 (o8 (nT (bF b))) ?_
   refine rn rfl ?_
   iterate 2 refine kx (hF rfl) ?_
   refine k0 (o8 rfl) ?_
   refine rn rfl ?_
   iterate 3 refine kx (hF rfl) ?_
   refine k0 (o8 rfl)<|d9<|l6 ?_
   exact aw hE [] (g.u (Nat.le_refl _) H)
  iterate 3 refine kx (hF (nT (bF c))) ?_
  refine k0 (o8 (nT (bF c))) ?_
  refine rn rfl ?_
  iterate 4 refine kx (hF rfl) ?_
  refine k0 (o8 rfl) ?_
  refine rn rfl ?_
  iterate 2 refine kx (hF rfl) ?_
  refine k0 (o8 rfl) ?_
  refine rn rfl ?_
  iterate 3 refine kx (hF rfl) ?_
  refine k0 (o8 rfl)<|d9<|l6 ?_
  exact aw hE [] (g.u (Nat.le_refl _) H)
 refine jc1 (fun _ _=>J5.j0.eq_2 ..) fun M u N H=>?_
 obtain ⟨t,H⟩|⟨t,H⟩:=oi H
 ·refine iT t<|d8<|c9<|rn rfl ?_
  obtain ⟨O,z,H⟩:=f6 H
  refine kC (cl (F3.ok z) [7]) ?_
  refine rn rfl ?_
  obtain ⟨P,B,H⟩:=f6 H
  refine kC (cl (I8.ok B) [8]) ?_
  refine rn rfl<|ed<|c8<|f7<|f8 ?_
  obtain rfl:=si H
  exact rt hE [(0,7),(1,8)] (hr:=(D5 5 (D5 4 (.tmp .nil))))
 refine iF (bF t)<|i9<|c8<|d8<|c9<|rn rfl ?_
 obtain ⟨C,D,H⟩:=f6 H
 refine kC (cl (F3.ok D) [9])<|k1 (al 10) ?_
 refine rn rfl<|d9<|c8<|d8<|c9<|rn rfl<|k1 (u7 11 46 4 [.int .i64 0,.int .i64 0,.int .i64 0,.int .i64 0] (([(⟨a.2.2.2.2.1,a.2.2.2.2.2.1,a.2.2.2.2.2.2.1,a.2.2.2.2.2.2.2.1⟩ : u5)] : List u5).map I1)) ?_
 obtain ⟨F,H⟩:=i8 H
 refine k3 (D7 12 46 4 32 [.int .i64 0,.int .i64 0,.int .i64 0,.int .i64 0] ((C.2.2.1 ++ ([(⟨a.2.2.2.2.1,a.2.2.2.2.2.1,a.2.2.2.2.2.2.1,a.2.2.2.2.2.2.2.1⟩ : u5)] : List u5)).map I1) (.row rfl) (D8 F rfl) z7) ?_
 refine rn rfl<|d9<|c8<|d8<|c9<|rn rfl<|d9<|c8<|d8<|c9<|rn rfl<|d9<|c8<|d8<|c9<|rn rfl<|ed<|c8<|f7 ?_
 obtain rfl:=si H
 exact rt hE [(0,12),(1,4)] (hr:=(D5 5 (D5 4 (.tmp .nil))))
def O8.f (k : Nat) (g : Y42) (d : List H7) (c : List D3) (h : List D1) (i : List Int) (j : List A2) (l : Int) (m : List Int) (n : List C7) (e : Int) (o : List Int) (p : List E9) (a : Int) : Option Y4:=if 0≤a then (if a < (c.length : Int) then (if a < (d.length : Int) then ((J5.f k ((I0 c a).f0) ((I0 c a).f1) ((I0 c a).f2) ((I0 c a).f3) ((I0 c a).f4) ((V2 d a).f0) ((V2 d a).f1) ((V2 d a).f2) ((V2 d a).f3) e).bind fun b=>some (b.2.2.2.2.2.2.2.2.2,g,d.set a.toNat (⟨b.2.2.2.2.2.1,b.2.2.2.2.2.2.1,b.2.2.2.2.2.2.2.1,b.2.2.2.2.2.2.2.2.1⟩ : H7),c.set a.toNat (⟨b.1,b.2.1,b.2.2.1,b.2.2.2.1,b.2.2.2.2.1⟩ : D3),h,i,j,l,m,n,e,o,p)) else none) else none) else none
theorem O8.ok (H : O8.f k i g h j l m n o p q s t e = some r) : j7 Tryz.prog 43 [(0,.box 37 [.row 1,.row 2,.row 3,.row 4,.row 5,.row 6,.lit (.int .i64 n),.row 7,.row 8,.lit (.int .i64 q),.row 9,.row 10]),(1,.row 102 1 (i.map (eL 1 (eL 4 (r8))))),(2,.row 50 4 (g.map M5)),(3,.row 48 5 (h.map L2)),(4,.row 96 6 (j.map I2)),(5,.row 3 1 (l.map (eI .i64))),(6,.row 116 6 (m.map C9)),(7,.row 3 1 (o.map (eI .i64))),(8,.row 108 3 (p.map F9)),(9,.row 3 1 (s.map (eI .i64))),(10,.row 42 4 (t.map M6))] [.box 0 0,.lit (.int .i64 e)] [(0,.box 37 [.row 1,.row 2,.row 3,.row 4,.row 5,.row 6,.lit (.int .i64 r.2.2.2.2.2.2.2.1),.row 7,.row 8,.lit (.int .i64 r.2.2.2.2.2.2.2.2.2.2.1),.row 9,.row 10]),(1,.row 102 1 (r.2.1.map (eL 1 (eL 4 (r8))))),(2,.row 50 4 (r.2.2.1.map M5)),(3,.row 48 5 (r.2.2.2.1.map L2)),(4,.row 96 6 (r.2.2.2.2.1.map I2)),(5,.row 3 1 (r.2.2.2.2.2.1.map (eI .i64))),(6,.row 116 6 (r.2.2.2.2.2.2.1.map C9)),(7,.row 3 1 (r.2.2.2.2.2.2.2.2.1.map (eI .i64))),(8,.row 108 3 (r.2.2.2.2.2.2.2.2.2.1.map F9)),(9,.row 3 1 (r.2.2.2.2.2.2.2.2.2.2.2.1.map (eI .i64))),(10,.row 42 4 (r.2.2.2.2.2.2.2.2.2.2.2.2.map M6))] (.lit (.bool r.1)):=by
 refine u3 46 Tryz.func43 fun E hE=>?_
 rw [O8.f] at H
 refine d8<|c9<|rn rfl<|d9<|c8<|d8<|c9<|rn rfl ?_
 obtain ⟨b,H⟩:=i8 H
 obtain ⟨c,H⟩:=i8 H
 refine k0 (iR b c)<|k0 (qA 5 b c) ?_
 refine rn rfl ?_
 obtain ⟨d,H⟩:=i8 H
 refine k0 (iR b d)<|k0 (qA 4 b d) ?_
 refine rn rfl ?_
 obtain ⟨a,u,H⟩:=f6 H
 refine kC (cl (J5.ok u) [11,12]) ?_
 refine rn rfl<|k1 (al 13)<|k1 (al 14) ?_
 refine rn rfl<|ed<|c8<|d8 ?_
 refine aq7 11<|c9 ?_
 refine rn rfl<|k0 (iR b c)<|k2 (stE 5 (L2 (⟨a.1,a.2.1,a.2.2.1,a.2.2.2.1,a.2.2.2.2.1⟩ : D3)) ((h.set e.toNat (⟨a.1,a.2.1,a.2.2.1,a.2.2.2.1,a.2.2.2.2.1⟩ : D3)).map L2) (ab9 (z:=z48) b c) af4)<|ed<|c8<|d8 ?_
 refine aq7 12<|c9 ?_
 refine rn rfl<|k0 (iR b d)<|k2 (stE 4 (M5 (⟨a.2.2.2.2.2.1,a.2.2.2.2.2.2.1,a.2.2.2.2.2.2.2.1,a.2.2.2.2.2.2.2.2.1⟩ : H7)) ((g.set e.toNat (⟨a.2.2.2.2.2.1,a.2.2.2.2.2.2.1,a.2.2.2.2.2.2.2.1,a.2.2.2.2.2.2.2.2.1⟩ : H7)).map M5) (ab9 (z:=z50) b d) af4)<|ed<|c8<|d8<|c9 ?_
 refine rn rfl<|d9<|c8<|f7 ?_
 obtain rfl:=si H
 exact rt hE []
def U1.f (k : Nat) (e : Int) (g : Int) (c : List u5) (d : Int) (b : Int) (h : Int) : Option (Int×Int×(List u5)×Int×Int×Bool):=(F3.f e g c d b).bind fun a=>(L8.f k e g c d b).bind fun i=>(if i = true then (if (c.length : Int) = 0 then some (a.1,a.2.1,a.2.2.1,a.2.2.2.1,a.2.2.2.2,false) else if (wrap64 (d + b)) > h then some (a.1,a.2.1,a.2.2.1,a.2.2.2.1,a.2.2.2.2,false) else some (a.1,a.2.1,a.2.2.1,h,min 4 (wrap64 (2 * b)),true)) else some (a.1,a.2.1,a.2.2.1,a.2.2.2.1,a.2.2.2.2,false))
theorem U1.ok (H : U1.f k d e g h i j = some r) : j7 Tryz.prog 44 [] [.agg [.lit (.int .i64 d),.lit (.int .i64 e),.sl .o 4 (g.map I1),.lit (.int .i64 h),.lit (.int .i64 i)],.lit (.int .i64 j)] [(0,.row 46 4 (r.2.2.1.map I1))] (.tup [.agg [.lit (.int .i64 r.1),.lit (.int .i64 r.2.1),.row 0,.lit (.int .i64 r.2.2.2.1),.lit (.int .i64 r.2.2.2.2.1)],.lit (.bool r.2.2.2.2.2)]):=by
 refine u3 36 Tryz.func44 fun E hE=>?_
 rw [U1.f] at H
 refine d8<|c9<|k1 (K2 0)<|k1 (al 1) ?_
 refine rn rfl<|d9<|c8<|d8<|c9<|rn rfl ?_
 obtain ⟨n,l,H⟩:=f6 H
 refine kC (cl (F3.ok l) [2])<|k1 (al 3) ?_
 refine rn rfl<|d9<|c8<|d8<|d8<|c9<|rn rfl ?_
 obtain ⟨o,m,H⟩:=f6 H
 refine kC (cl (L8.ok m) []) ?_
 refine rn rfl ?_
 obtain ⟨b,H⟩|⟨b,H⟩:=oi H
 ·refine kv (g1 (nF b)) (y8 2 2)<|kv (g1 (nF b)) B5<|kv (g1 (nF b)) (G3 v7)<|kv (g1 (nF b)) eql ?_
  refine k0 (n8 (nF b)) ?_
  refine rn rfl ?_
  obtain ⟨a,H⟩|⟨a,H⟩:=oi H
  ·iterate 7 refine kx (hF (eT a)) ?_
   refine k0 (o8 (eT a))<|d9<|c8<|iT rfl<|d8<|c9 ?_
   refine rn rfl<|d9<|c8<|f7<|f8 ?_
   obtain rfl:=si H
   exact rt hE [(0,2)] (hr:=(D5 5 (.tmp .nil)))
  refine kv (g1 (eF a)) (y8 3 3)<|kv (g1 (eF a)) B5<|kv (g1 (eF a)) (y8 4 4)<|kv (g1 (eF a)) B5<|kv (g1 (eF a)) aA4<|kv (g1 (eF a)) mv<|kv (g1 (eF a)) gtr ?_
  refine k0 (n8 (eF a))<|d9<|c8 ?_
  obtain ⟨c,H⟩|⟨c,H⟩:=oi H
  ·refine iT (decide_eq_true c)<|d8<|c9<|rn rfl<|d9<|c8<|f7<|f8 ?_
   obtain rfl:=si H
   exact rt hE [(0,2)] (hr:=(D5 5 (.tmp .nil)))
  refine iF (decide_eq_false c)<|i9<|c8<|d8<|c9<|rn rfl<|d9<|c8<|d8<|c9<|rn rfl<|k0 min_ ?_
  refine rn rfl<|d9<|c8<|d8<|c9<|rn rfl<|d9<|c8<|f7 ?_
  obtain rfl:=si H
  exact rt hE [(0,2)] (hr:=(D5 5 (.tmp .nil)))
 iterate 4 refine kx (hF (nT (bF b))) ?_
 refine k0 (o8 (nT (bF b))) ?_
 refine rn rfl ?_
 iterate 7 refine kx (hF rfl) ?_
 refine k0 (o8 rfl)<|d9<|c8<|iT rfl<|d8<|c9 ?_
 refine rn rfl<|d9<|c8<|f7<|f8 ?_
 obtain rfl:=si H
 exact rt hE [(0,2)] (hr:=(D5 5 (.tmp .nil)))
def N6.l0 : Nat→Int→Int→(List u5)→Int→Int→(List P9)→Int→Option ((List P9))
 | 0,_,_,_,_,_,_,_=>none
 | g + 1,c,d,b,h,i,e,a=>if a < (b.length : Int) then if 0≤a then if e.length + ([(⟨1,c,wrap64 (d + a),(⟨(H2 b a).f0,(H2 b a).f1,(H2 b a).f2,(H2 b a).f3⟩ : u5)⟩ : P9)] : List P9).length < 2513169434916 then N6.l0 g c d b h i (e ++ ([(⟨1,c,wrap64 (d + a),(⟨(H2 b a).f0,(H2 b a).f1,(H2 b a).f2,(H2 b a).f3⟩ : u5)⟩ : P9)] : List P9)) (wrap64 (a + 1)) else none else none else some e
def N6.f (k : Nat) (a : Int) (b : Int) (c : List u5) (d : Int) (e : Int) : Option ((List P9)):=(L8.f k a b c d e).bind fun g=>if g = true then N6.l0 k a b c d e ([] : List P9) 0 else some ([] : List P9)
theorem N6.ok (H : N6.f k c d a g i = some r) : j7 Tryz.prog 45 [] [.agg [.lit (.int .i64 c),.lit (.int .i64 d),.sl .o 4 (a.map I1),.lit (.int .i64 g),.lit (.int .i64 i)]] [(0,.row 88 7 (r.map e88))] (.row 0):=by
 refine u3 32 Tryz.func45 fun E hE=>?_
 rw [N6.f] at H
 refine d8<|c9<|k1 (K2 0) ?_
 refine rn rfl<|d9<|c8<|d8<|c9<|k1 (u7 1 88 7 [.int .i64 0,.int .i64 0,.int .i64 0,.int .i64 0,.int .i64 0,.int .i64 0,.int .i64 0] (([] : List P9).map e88)) ?_
 refine rn rfl<|d9<|c8<|d8<|d8<|c9<|rn rfl ?_
 obtain ⟨q,m,H⟩:=f6 H
 refine kC (cl (L8.ok m) []) ?_
 refine rn rfl<|d9<|c8 ?_
 obtain ⟨j,H⟩|⟨j,H⟩:=oi H
 ·refine iF (nF j)<|i9<|c8<|d8<|d8<|c9<|rn rfl<|k0 (G3 v7) ?_
  refine rn rfl<|d9<|c8<|j4 ?_
  refine V7 (fun k=>N6.l0 k c d a g i) (fun l b=>⟨[(1,.box 0 0),(3,.row 1),(12,.sl .o 4 (a.map I1)),(13,.lit (.int .i64 (a.length : Int))),(14,.lit (.int .i64 b))],[(0,.box 48 [.lit (.int .i64 c),.lit (.int .i64 d),.sl .o 4 (a.map I1),.lit (.int .i64 g),.lit (.int .i64 i)]),(1,.row 88 7 (l.map e88))]⟩) H (fun _ h=>aw hE [] h) (fun _ _ _=>N6.l0.eq_2 ..) fun s l b t H u n=>?_
  refine d8<|c9<|rn rfl<|d9<|c8<|d8 ?_
  obtain ⟨e,H⟩|⟨e,H⟩:=oi H
  ·refine iT (decide_eq_true e)<|i9<|c8<|d8<|j4<|d8<|c9<|rn rfl ?_
   obtain ⟨o,H⟩:=i8 H
   refine k0 (iS o e) ?_
   refine rn rfl<|k1 (al 2) ?_
   refine rn rfl<|d9<|c8<|c9<|rn rfl<|k1 (u7 3 88 7 [.int .i64 0,.int .i64 0,.int .i64 0,.int .i64 0,.int .i64 0,.int .i64 0,.int .i64 0] (([(⟨1,c,wrap64 (d + b),(⟨(H2 a b).f0,(H2 a b).f1,(H2 a b).f2,(H2 a b).f3⟩ : u5)⟩ : P9)] : List P9).map e88)) ?_
   obtain ⟨p,H⟩:=i8 H
   refine k3 (D7 4 88 7 56 [.int .i64 0,.int .i64 0,.int .i64 0,.int .i64 0,.int .i64 0,.int .i64 0,.int .i64 0] ((l ++ ([(⟨1,c,wrap64 (d + b),(⟨(H2 a b).f0,(H2 a b).f1,(H2 a b).f2,(H2 a b).f3⟩ : u5)⟩ : P9)] : List P9)).map e88) (.row rfl) (D8 p rfl) z7) ?_
   refine rn rfl<|d9<|j6<|c8<|c9<|rn rfl<|d9<|l6 ?_
   exact aw hE [(1,4)] (n (Nat.le_refl _) H)
  refine iF (decide_eq_false e)<|m6<|j5<|j5<|n7 rfl<|c8<|d8<|c9<|rn rfl<|d9<|c8<|f7 ?_
  obtain rfl:=si H
  exact rt hE [(0,1)]
 refine iT (nT (bF j))<|d8<|c9<|rn rfl<|d9<|c8<|f7<|f8 ?_
 obtain rfl:=si H
 exact rt hE [(0,1)]
def P8.f (a : Int) (g : Int) (h : Int) (b : Int) (c : Int) (d : Int) (e : Int) : P0:=(aa4.f g).bind fun i=>(if i = true then ((j8.f h 1 1000000000).bind fun j=>if j = true then if a = 1 then ((T4.f b c d e).bind fun k=>some k) else if a = 2 then some (b == 0 && (c == 0 && (d == 0 && (e == 0)))) else some false else some false) else some false)
theorem P8.ok (H : P8.f j k l e g h i = some r) : j7 Tryz.prog 132 [] [.agg [.lit (.int .i64 j),.lit (.int .i64 k),.lit (.int .i64 l),.lit (.int .i64 e),.lit (.int .i64 g),.lit (.int .i64 h),.lit (.int .i64 i)]] [] (.lit (.bool r)):=by
 refine u3 26 Tryz.func132 fun E hE=>?_
 rw [P8.f] at H
 refine d8<|c9<|k1 (K2 0) ?_
 refine rn rfl<|d9<|c8<|d8<|d8<|c9<|rn rfl ?_
 obtain ⟨p,m,H⟩:=f6 H
 refine kC (cl (aa4.ok m) []) ?_
 refine rn rfl ?_
 obtain ⟨a,H⟩|⟨a,H⟩:=oi H
 ·refine kv (g1 (nF a)) (y8 2 2)<|kv (g1 (nF a)) B5 ?_
  obtain ⟨q,n,H⟩:=f6 H
  refine N5 (g1 (nF a)) (cl (j8.ok n) [])<|kv (g1 (nF a)) V4 ?_
  refine k0 (n8 (nF a))<|d9<|c8 ?_
  obtain ⟨b,H⟩|⟨b,H⟩:=oi H
  ·refine iF (nF b)<|i9<|c8<|d8<|d8<|c9<|rn rfl<|d9<|c8<|j4<|d8<|c9<|rn rfl<|d9<|c8 ?_
   obtain ⟨c,H⟩|⟨c,H⟩:=oi H
   ·refine iT (eT c)<|d8<|c9<|rn rfl ?_
    obtain ⟨s,o,H⟩:=f6 H
    refine kC (cl (T4.ok o) []) ?_
    refine rn rfl<|d9<|c8<|f7<|l7<|f8 ?_
    obtain rfl:=si H
    exact rt hE []
   refine iF (eF c)<|d8<|c9<|rn rfl<|d9<|c8 ?_
   obtain ⟨d,H⟩|⟨d,H⟩:=oi H
   ·refine iT (eT d)<|d8<|c9<|rn rfl<|k0 (eqS (fun w=>cg8 _ w e g h i 0 0 0 0)) ?_
    refine rn rfl<|d9<|c8<|f7<|l7<|f8 ?_
    obtain rfl:=si H
    exact rt hE []
   refine iF (eF d)<|i9<|j6<|c8<|d8<|c9<|rn rfl<|d9<|c8<|f7 ?_
   obtain rfl:=si H
   exact rt hE []
  refine iT (nT (bF b))<|d8<|c9<|rn rfl<|d9<|c8<|f7<|f8 ?_
  obtain rfl:=si H
  exact rt hE []
 iterate 4 refine kx (hF (nT (bF a))) ?_
 refine k0 (o8 (nT (bF a)))<|d9<|c8<|iT rfl<|d8<|c9 ?_
 refine rn rfl<|d9<|c8<|f7<|f8 ?_
 obtain rfl:=si H
 exact rt hE []
def F2.l0 : Nat→Int→(List Int)→Y39
 | 0,_,_=>none
 | c + 1,a,b=>if a > 127 then if b.length + ([IntKind.u8.wrap (bits .or .i64 (bits .and .i64 a 127) 128)] : List Int).length < 140737488355328 then F2.l0 c (a.fdiv (2 ^ 7)) (b ++ ([IntKind.u8.wrap (bits .or .i64 (bits .and .i64 a 127) 128)] : List Int)) else none else if b.length + ([IntKind.u8.wrap a] : List Int).length < 140737488355328 then some (strOfNums (b ++ ([IntKind.u8.wrap a] : List Int)),true) else none
def F2.f (k : Nat) (a : Int) : Y39:=(j8.f a 0 1000000000).bind fun b=>if b = true then F2.l0 k a ([] : List Int) else some (ByteArray.empty,false)
theorem F2.ok (H : F2.f k e = some r) : j7 Tryz.prog 155 [] [.lit (.int .i64 e)] [] (.tup [.lit (.string r.1),.lit (.bool r.2)]):=by
 refine u3 26 Tryz.func155 fun E hE=>?_
 rw [F2.f] at H
 refine d8<|c9<|rn rfl<|d9<|c8<|d8<|d8<|c9<|rn rfl ?_
 obtain ⟨m,g,H⟩:=f6 H
 refine kC (cl (j8.ok g) []) ?_
 refine rn rfl<|d9<|c8 ?_
 obtain ⟨c,H⟩|⟨c,H⟩:=oi H
 ·refine iF (nF c)<|i9<|c8<|d8<|c9<|k1 (u7 0 5 1 [.int .u8 0] (([] : List Int).map (eI .u8))) ?_
  refine rn rfl<|d9<|c8<|d8<|j4 ?_
  refine V7 F2.l0 (fun a b=>⟨[(0,.lit (.int .i64 a)),(4,.row 0)],[(0,.row 5 1 (b.map (eI .u8)))]⟩) H (fun _ h=>aw hE [] h) (fun _ _ _=>F2.l0.eq_2 ..) fun n a b o H p i=>?_
  refine d8<|d8<|c9<|rn rfl<|d9<|c8 ?_
  obtain ⟨d,H⟩|⟨d,H⟩:=oi H
  ·refine iT (decide_eq_true d)<|i9<|c8<|j4<|d8<|c9<|rn rfl<|k0 (cnv .u8)<|k1 (u7 1 5 1 [.int .u8 0] (([IntKind.u8.wrap (bits .or .i64 (bits .and .i64 a 127) 128)] : List Int).map (eI .u8))) ?_
   obtain ⟨j,H⟩:=i8 H
   refine k3 (D7 2 5 1 1 [.int .u8 0] ((b ++ ([IntKind.u8.wrap (bits .or .i64 (bits .and .i64 a 127) 128)] : List Int)).map (eI .u8)) (.row rfl) (D8 j rfl) z7) ?_
   refine rn rfl<|d9<|c8<|c9<|rn rfl<|k0 (shr (by decide : (0 : Int)≤7)) ?_
   refine rn rfl<|d9<|j6<|l6 ?_
   exact aw hE [(0,2)] (i (Nat.le_refl _) H)
  refine iF (decide_eq_false d)<|m6<|j5<|j5<|n7 rfl<|c8<|d8<|c9<|rn rfl<|k0 (cnv .u8)<|k1 (u7 3 5 1 [.int .u8 0] (([IntKind.u8.wrap a] : List Int).map (eI .u8))) ?_
  obtain ⟨l,H⟩:=i8 H
  refine k3 (D7 4 5 1 1 [.int .u8 0] ((b ++ ([IntKind.u8.wrap a] : List Int)).map (eI .u8)) (.row rfl) (D8 l rfl) z7)<|k0 (cvB (.row rfl)) ?_
  refine rn rfl<|d9<|c8<|f7 ?_
  obtain rfl:=si H
  exact rt hE []
 refine iT (nT (bF c))<|d8<|c9<|rn rfl<|d9<|c8<|f7<|f8 ?_
 obtain rfl:=si H
 exact rt hE []
def X2.f (a : Int) : Y49:=some (strOfNums ([IntKind.u8.wrap (a.fdiv (2 ^ 24)),IntKind.u8.wrap (a.fdiv (2 ^ 16)),IntKind.u8.wrap (a.fdiv (2 ^ 8)),IntKind.u8.wrap a] : List Int))
theorem X2.ok (H : X2.f a = some r) : j7 Tryz.prog 157 [] [.lit (.int .i64 a)] [] (.lit (.string r)):=by
 refine u3 16 Tryz.func157 fun E hE=>?_
 rw [X2.f] at H
 refine d8<|c9<|rn rfl<|d9<|c8<|d8<|c9<|rn rfl<|k0 (shr (by decide : (0 : Int)≤24))<|k0 (cnv .u8) ?_
 refine rn rfl<|k0 (shr (by decide : (0 : Int)≤16))<|k0 (cnv .u8) ?_
 refine rn rfl<|k0 (shr (by decide : (0 : Int)≤8))<|k0 (cnv .u8) ?_
 refine rn rfl<|k0 (cnv .u8)<|k1 (u7 0 5 1 [.int .u8 0] (([IntKind.u8.wrap (a.fdiv (2 ^ 24)),IntKind.u8.wrap (a.fdiv (2 ^ 16)),IntKind.u8.wrap (a.fdiv (2 ^ 8)),IntKind.u8.wrap a] : List Int).map (eI .u8)))<|k0 (cvB (.row rfl)) ?_
 refine rn rfl<|d9<|c8<|f7 ?_
 obtain rfl:=si H
 exact rt hE []
mutual
def C2.l0 : Nat→ByteArray→Int→Int→Int→Y55
 | 0,_,_,_,_=>none
 | d + 1,b,a,c,e=>if e < 8 then if (bits .and .u32 c 1) = 1 then C2.l0 d b a (bits .xor .u32 (c.fdiv (2 ^ 1)) 3558460437) (wrap64 (e + 1)) else C2.l0 d b a (c.fdiv (2 ^ 1)) (wrap64 (e + 1)) else C2.l1 d b c (wrap64 (a + 1))
def C2.l1 : Nat→ByteArray→Int→Int→Y55
 | 0,_,_,_=>none
 | h + 1,b,g,a=>if a < (b.size : Int) then if 0≤a then C2.l0 h b a (bits .xor .u32 g (IntKind.u32.wrap (bt b a))) 0 else none else some g
end
def C2.f (k : Nat) (a : Int) (b : ByteArray) : Y55:=C2.l1 k b a 0
theorem C2.ok (H : C2.f k m a = some r) : j7 Tryz.prog 277 [] [.lit (.int .u32 m),.lit (.string a)] [] (.lit (.int .u32 r)):=by
 refine u3 31 Tryz.func277 fun E hE=>?_
 rw [C2.f] at H
 refine d8<|c9<|rn rfl<|d9<|c8<|d8<|d8<|c9<|rn rfl<|d9<|c8<|j4 ?_
 refine V7 (fun k=>C2.l1 k a) (fun g b=>⟨[(0,.lit (.int .u32 g)),(1,.lit (.string a)),(5,.lit (.int .i64 b))],[]⟩) H (fun _ h=>aw hE [] h) (fun _ _ _=>C2.l1.eq_2 ..) fun p g b q H s n=>?_
 refine d8<|d8<|c9<|rn rfl<|d9<|c8 ?_
 obtain ⟨c,H⟩|⟨c,H⟩:=oi H
 ·refine iT (decide_eq_true c)<|i9<|c8<|d8<|j4<|d8<|c9<|rn rfl ?_
  obtain ⟨o,H⟩:=i8 H
  refine k0 (ixT o c)<|k0 (cnv .u32) ?_
  refine rn rfl<|d9<|c8<|d8<|c9<|rn rfl<|d9<|c8<|j4 ?_
  refine V7 (fun k=>C2.l0 k a b) (fun i j=>⟨[(0,.lit (.int .u32 i)),(1,.lit (.string a)),(5,.lit (.int .i64 b)),(19,.lit (.int .i64 j))],[]⟩) H (fun _ h=>aw hE [] h) (fun _ _ _=>C2.l0.eq_2 ..) fun t i j u H v l=>?_
  refine d8<|c9<|rn rfl<|d9<|c8<|d8 ?_
  obtain ⟨d,H⟩|⟨d,H⟩:=oi H
  ·refine iT (decide_eq_true d)<|i9<|c8<|d8<|j4<|d8<|c9<|rn rfl<|d9<|c8<|d8<|c9<|rn rfl<|k0 (shr (by decide : (0 : Int)≤1)) ?_
   refine rn rfl<|d9<|c8<|d8<|c9<|rn rfl<|d9<|c8 ?_
   obtain ⟨e,H⟩|⟨e,H⟩:=oi H
   ·refine iT (eT e)<|c9<|rn rfl<|d9<|j6<|c8<|c9<|rn rfl<|d9<|l6 ?_
    exact aw hE [] (l (Nat.le_refl _) H)
   refine iF (eF e)<|i9<|j6<|c8<|c9<|rn rfl<|d9<|l6 ?_
   exact aw hE [] (l (Nat.le_refl _) H)
  refine iF (decide_eq_false d)<|m6<|j5<|j5<|n7 rfl<|j6<|c8<|c9<|rn rfl<|d9<|l6 ?_
  exact aw hE [] (n (by omega) H)
 refine iF (decide_eq_false c)<|m6<|j5<|j5<|n7 rfl<|c8<|d8<|c9<|rn rfl<|d9<|c8<|f7 ?_
 obtain rfl:=si H
 exact rt hE []
def aa2.f (k : Nat) (a : ByteArray) : Y55:=(C2.f k 4294967295 a).bind fun b=>some b
theorem aa2.ok (H : aa2.f k a = some r) : j7 Tryz.prog 216 [] [.lit (.string a)] [] (.lit (.int .u32 r)):=by
 refine u3 5 Tryz.func216 fun E hE=>?_
 rw [aa2.f] at H
 refine d8<|c9<|rn rfl<|d9<|c8<|d8<|c9<|rn rfl ?_
 obtain ⟨c,b,H⟩:=f6 H
 refine kC (cl (C2.ok b) []) ?_
 refine rn rfl<|d9<|c8<|f7 ?_
 obtain rfl:=si H
 exact rt hE []
def ad4.f (k : Nat) (a : ByteArray) : Y39:=if (a.size : Int) > 20000 then some (ByteArray.empty,false) else (aa2.f k a).bind fun c=>((X2.f (wrap64 c)).bind fun b=>(if a.size + b.size≤9223372036854775807 then some (a ++ b,true) else none))
theorem ad4.ok (H : ad4.f k b = some r) : j7 Tryz.prog 156 [] [.lit (.string b)] [] (.tup [.lit (.string r.1),.lit (.bool r.2)]):=by
 refine u3 13 Tryz.func156 fun E hE=>?_
 rw [ad4.f] at H
 refine d8<|c9<|rn rfl<|d9<|c8<|d8<|d8<|c9<|rn rfl<|d9<|c8 ?_
 obtain ⟨a,H⟩|⟨a,H⟩:=oi H
 ·refine iT (decide_eq_true a)<|d8<|c9<|rn rfl<|d9<|c8<|f7<|f8 ?_
  obtain rfl:=si H
  exact rt hE []
 refine iF (decide_eq_false a)<|i9<|c8<|d8<|c9<|rn rfl ?_
 obtain ⟨g,c,H⟩:=f6 H
 refine kC (cl (aa2.ok c) []) ?_
 refine rn rfl ?_
 obtain ⟨h,d,H⟩:=f6 H
 refine kC (cl (X2.ok d) []) ?_
 obtain ⟨e,H⟩:=i8 H
 refine k0 (N4 e) ?_
 refine rn rfl<|d9<|c8<|f7 ?_
 obtain rfl:=si H
 exact rt hE []
def Q5.f (k : Nat) (a : Int) (b : Int) (h : Int) (c : Int) (i : Int) (j : Int) (l : Int) : Y39:=(P8.f a b h c i j l).bind fun o=>if o = true then (F2.f k h).bind fun d=>(F2.f k l).bind fun m=>if (strOfNums ([IntKind.u8.wrap a,IntKind.u8.wrap b] : List Int)).size + d.1.size≤9223372036854775807 then (if ((strOfNums ([IntKind.u8.wrap a,IntKind.u8.wrap b] : List Int)) ++ d.1).size + (strOfNums ([IntKind.u8.wrap c] : List Int)).size≤9223372036854775807 then ((X2.f i).bind fun e=>(if (((strOfNums ([IntKind.u8.wrap a,IntKind.u8.wrap b] : List Int)) ++ d.1) ++ (strOfNums ([IntKind.u8.wrap c] : List Int))).size + e.size≤9223372036854775807 then ((X2.f j).bind fun g=>(if ((((strOfNums ([IntKind.u8.wrap a,IntKind.u8.wrap b] : List Int)) ++ d.1) ++ (strOfNums ([IntKind.u8.wrap c] : List Int))) ++ e).size + g.size≤9223372036854775807 then (if (((((strOfNums ([IntKind.u8.wrap a,IntKind.u8.wrap b] : List Int)) ++ d.1) ++ (strOfNums ([IntKind.u8.wrap c] : List Int))) ++ e) ++ g).size + m.1.size≤9223372036854775807 then ((ad4.f k ((((((strOfNums ([IntKind.u8.wrap a,IntKind.u8.wrap b] : List Int)) ++ d.1) ++ (strOfNums ([IntKind.u8.wrap c] : List Int))) ++ e) ++ g) ++ m.1)).bind fun n=>some (n.1,n.2)) else none) else none)) else none)) else none) else none else some (ByteArray.empty,false)
theorem Q5.ok (H : Q5.f k b c e d g h i = some r) : j7 Tryz.prog 78 [] [.agg [.lit (.int .i64 b),.lit (.int .i64 c),.lit (.int .i64 e),.lit (.int .i64 d),.lit (.int .i64 g),.lit (.int .i64 h),.lit (.int .i64 i)]] [] (.tup [.lit (.string r.1),.lit (.bool r.2)]):=by
 refine u3 56 Tryz.func78 fun E hE=>?_
 rw [Q5.f] at H
 refine d8<|c9<|k1 (K2 0) ?_
 refine rn rfl<|d9<|c8<|d8<|d8<|c9<|rn rfl ?_
 obtain ⟨w,j,H⟩:=f6 H
 refine kC (cl (P8.ok j) []) ?_
 refine rn rfl<|d9<|c8 ?_
 obtain ⟨a,H⟩|⟨a,H⟩:=oi H
 ·refine iF (nF a)<|i9<|c8<|d8<|c9<|rn rfl ?_
  obtain ⟨x,l,H⟩:=f6 H
  refine kC (cl (F2.ok l) []) ?_
  refine rn rfl<|d9<|c8<|d8<|c9<|rn rfl ?_
  obtain ⟨y,m,H⟩:=f6 H
  refine kC (cl (F2.ok m) []) ?_
  refine rn rfl<|d9<|c8<|d8<|c9<|rn rfl<|k0 (cnv .u8) ?_
  refine rn rfl<|k0 (cnv .u8)<|k1 (u7 1 5 1 [.int .u8 0] (([IntKind.u8.wrap b,IntKind.u8.wrap c] : List Int).map (eI .u8)))<|k0 (cvB (.row rfl)) ?_
  refine rn rfl ?_
  obtain ⟨n,H⟩:=i8 H
  refine k0 (N4 n) ?_
  refine rn rfl<|k0 (cnv .u8)<|k1 (u7 2 5 1 [.int .u8 0] (([IntKind.u8.wrap d] : List Int).map (eI .u8)))<|k0 (cvB (.row rfl)) ?_
  obtain ⟨o,H⟩:=i8 H
  refine k0 (N4 o) ?_
  refine rn rfl ?_
  obtain ⟨z,p,H⟩:=f6 H
  refine kC (cl (X2.ok p) []) ?_
  obtain ⟨q,H⟩:=i8 H
  refine k0 (N4 q) ?_
  refine rn rfl ?_
  obtain ⟨B,s,H⟩:=f6 H
  refine kC (cl (X2.ok s) []) ?_
  obtain ⟨t,H⟩:=i8 H
  refine k0 (N4 t) ?_
  refine rn rfl ?_
  obtain ⟨u,H⟩:=i8 H
  refine k0 (N4 u) ?_
  obtain ⟨C,v,H⟩:=f6 H
  refine kC (cl (ad4.ok v) []) ?_
  refine rn rfl<|ed<|c8<|f7 ?_
  obtain rfl:=si H
  exact rt hE []
 refine iT (nT (bF a))<|d8<|c9<|rn rfl<|d9<|c8<|f7<|f8 ?_
 obtain rfl:=si H
 exact rt hE []
def N8.f (b : Y42) (c : List H7) (d : List D3) (e : List D1) (g : List Int) (h : List A2) (i : Int) (j : List Int) (a : List C7) (k : Int) (l : List Int) (m : List E9) (n : Bool) (o : ByteArray) (p : Bool) : Y3:=if (a.length : Int) < 10 then (if a.length + ([(⟨n,o,p⟩ : C7)] : List C7).length < 4398046511104 then some (b,c,d,e,g,h,i,j,a ++ ([(⟨n,o,p⟩ : C7)] : List C7),k,l,m) else none) else some (b,c,d,e,g,h,i,j,a,k,l,m)
theorem N8.ok (H : N8.f i j k l m n e o g h p q a b c = some r) : j7 Tryz.prog 79 [(0,.box 37 [.row 1,.row 2,.row 3,.row 4,.row 5,.row 6,.lit (.int .i64 e),.row 7,.row 8,.lit (.int .i64 h),.row 9,.row 10]),(1,.row 102 1 (i.map (eL 1 (eL 4 (r8))))),(2,.row 50 4 (j.map M5)),(3,.row 48 5 (k.map L2)),(4,.row 96 6 (l.map I2)),(5,.row 3 1 (m.map (eI .i64))),(6,.row 116 6 (n.map C9)),(7,.row 3 1 (o.map (eI .i64))),(8,.row 108 3 (g.map F9)),(9,.row 3 1 (p.map (eI .i64))),(10,.row 42 4 (q.map M6))] [.box 0 0,.agg [.lit (.bool a),.lit (.string b),.lit (.bool c)]] [(0,.box 37 [.row 1,.row 2,.row 3,.row 4,.row 5,.row 6,.lit (.int .i64 r.2.2.2.2.2.2.1),.row 7,.row 11,.lit (.int .i64 r.2.2.2.2.2.2.2.2.2.1),.row 9,.row 10]),(1,.row 102 1 (r.1.map (eL 1 (eL 4 (r8))))),(2,.row 50 4 (r.2.1.map M5)),(3,.row 48 5 (r.2.2.1.map L2)),(4,.row 96 6 (r.2.2.2.1.map I2)),(5,.row 3 1 (r.2.2.2.2.1.map (eI .i64))),(6,.row 116 6 (r.2.2.2.2.2.1.map C9)),(7,.row 3 1 (r.2.2.2.2.2.2.2.1.map (eI .i64))),(8,.gone),(9,.row 3 1 (r.2.2.2.2.2.2.2.2.2.2.1.map (eI .i64))),(10,.row 42 4 (r.2.2.2.2.2.2.2.2.2.2.2.map M6)),(11,.row 108 3 (r.2.2.2.2.2.2.2.2.1.map F9))] (.tup []):=by
 refine u3 20 Tryz.func79 fun E hE=>?_
 rw [N8.f] at H
 refine d8<|c9<|k1 (K2 11)<|d9<|c8<|d8<|c9 ?_
 refine rn rfl<|k0 (lnR v7) ?_
 refine rn rfl<|d9<|c8 ?_
 obtain ⟨d,H⟩|⟨d,H⟩:=oi H
 ·refine iT (decide_eq_true d)<|c9<|rn rfl<|k1 (u7 12 108 3 [.bool false,.string .empty,.bool false] (([(⟨a,b,c⟩ : C7)] : List C7).map F9)) ?_
  obtain ⟨s,H⟩:=i8 H
  refine k3 (D7 13 108 3 32 [.bool false,.string .empty,.bool false] ((g ++ ([(⟨a,b,c⟩ : C7)] : List C7)).map F9) (.row rfl) (D8 s rfl) z7) ?_
  refine rn rfl<|ed ?_
  obtain rfl:=si H
  refine af3 ?_
  exact rt hE [(11,13)]
 refine iF (decide_eq_false d)<|i9 ?_
 refine D4 0 8 14 [.row 1,.row 2,.row 3,.row 4,.row 5,.row 6,.lit (.int .i64 e),.row 7,.row 14,.lit (.int .i64 h),.row 9,.row 10] ?_
 obtain rfl:=si H
 refine af3 ?_
 exact rt hE [(11,14)]
mutual
def B2.l0 : Nat→((List P9))→Y40→(List H7)→(List D3)→(List D1)→(List Int)→(List A2)→Int→(List Int)→(List C7)→Int→(List Int)→(List E9)→Int→Y1
 | 0,_,_,_,_,_,_,_,_,_,_,_,_,_,_=>none
 | e + 1,b,g,h,i,j,k,l,m,n,o,p,q,r,c=>if c < (b.length : Int) then if 0≤c then (Q5.f e ((Z4 b c).f0) ((Z4 b c).f1) ((Z4 b c).f2) ((Z4 b c).f3.f0) ((Z4 b c).f3.f1) ((Z4 b c).f3.f2) ((Z4 b c).f3.f3)).bind fun t=>(N8.f g h i j k l m n o p q r false t.1 false).bind fun a=>B2.l0 e b a.1 a.2.1 a.2.2.1 a.2.2.2.1 a.2.2.2.2.1 a.2.2.2.2.2.1 a.2.2.2.2.2.2.1 a.2.2.2.2.2.2.2.1 a.2.2.2.2.2.2.2.2.1 a.2.2.2.2.2.2.2.2.2.1 a.2.2.2.2.2.2.2.2.2.2.1 a.2.2.2.2.2.2.2.2.2.2.2 (wrap64 (c + 1)) else none else some (0,g,h,i,j,k,l,m,n,o,p,q,r)
def B2.j0 : Nat→Y40→(List H7)→(List D3)→(List D1)→(List Int)→(List A2)→Int→(List Int)→(List C7)→Int→(List Int)→(List E9)→Int→(Int×Int×(List u5)×Int×Int×Bool)→Y1
 | 0,_,_,_,_,_,_,_,_,_,_,_,_,_,_=>none
 | s + 1,u,v,w,x,y,z,B,C,D,F,G,I,J,d=>(N6.f s d.1 d.2.1 d.2.2.1 d.2.2.2.1 d.2.2.2.2.1).bind fun b=>B2.l0 s b u v (w.set J.toNat (⟨d.1,d.2.1,d.2.2.1,d.2.2.2.1,d.2.2.2.2.1⟩ : D3)) x y z B C D F G I 0
end
def B2.f (k : Nat) (e : Y42) (g : List H7) (b : List D3) (h : List D1) (i : List Int) (j : List A2) (l : Int) (m : List Int) (n : List C7) (d : Int) (o : List Int) (p : List E9) (a : Int) (q : Bool) : Y1:=if 0≤a then (if a < (b.length : Int) then ((U1.f k ((I0 b a).f0) ((I0 b a).f1) ((I0 b a).f2) ((I0 b a).f3) ((I0 b a).f4) d).bind fun c=>if c.2.2.2.2.2 = true then B2.j0 k e g b h i j l m n d o p a c else if q = true then B2.j0 k e g b h i j l m n d o p a c else some (1,e,g,b.set a.toNat (⟨c.1,c.2.1,c.2.2.1,c.2.2.2.1,c.2.2.2.2.1⟩ : D3),h,i,j,l,m,n,d,o,p)) else none) else none
theorem B2.ok (H : B2.f k m n g o p q c s t d u v i T = some r) : j7 Tryz.prog 76 [(0,.box 37 [.row 1,.row 2,.row 3,.row 4,.row 5,.row 6,.lit (.int .i64 c),.row 7,.row 8,.lit (.int .i64 d),.row 9,.row 10]),(1,.row 102 1 (m.map (eL 1 (eL 4 (r8))))),(2,.row 50 4 (n.map M5)),(3,.row 48 5 (g.map L2)),(4,.row 96 6 (o.map I2)),(5,.row 3 1 (p.map (eI .i64))),(6,.row 116 6 (q.map C9)),(7,.row 3 1 (s.map (eI .i64))),(8,.row 108 3 (t.map F9)),(9,.row 3 1 (u.map (eI .i64))),(10,.row 42 4 (v.map M6))] [.box 0 0,.lit (.int .i64 i),.lit (.bool T)] [(0,.box 37 [.row 1,.row 2,.row 3,.row 4,.row 5,.row 6,.lit (.int .i64 r.2.2.2.2.2.2.2.1),.row 7,.row 11,.lit (.int .i64 r.2.2.2.2.2.2.2.2.2.2.1),.row 9,.row 10]),(1,.row 102 1 (r.2.1.map (eL 1 (eL 4 (r8))))),(2,.row 50 4 (r.2.2.1.map M5)),(3,.row 48 5 (r.2.2.2.1.map L2)),(4,.row 96 6 (r.2.2.2.2.1.map I2)),(5,.row 3 1 (r.2.2.2.2.2.1.map (eI .i64))),(6,.row 116 6 (r.2.2.2.2.2.2.1.map C9)),(7,.row 3 1 (r.2.2.2.2.2.2.2.2.1.map (eI .i64))),(8,.gone),(9,.row 3 1 (r.2.2.2.2.2.2.2.2.2.2.2.1.map (eI .i64))),(10,.row 42 4 (r.2.2.2.2.2.2.2.2.2.2.2.2.map M6)),(11,.row 108 3 (r.2.2.2.2.2.2.2.2.2.1.map F9))] (.lit (.int .i64 r.1)):=by
 refine u3 58 Tryz.func76 fun E hE=>?_
 rw [B2.f] at H
 refine d8<|c9<|rn rfl<|d9<|c8<|d8<|c9<|rn rfl ?_
 obtain ⟨j,H⟩:=i8 H
 obtain ⟨l,H⟩:=i8 H
 refine k0 (iR j l)<|k0 (qA 5 j l) ?_
 refine rn rfl ?_
 obtain ⟨a,U,H⟩:=f6 H
 refine kC (cl (U1.ok U) [11]) ?_
 refine rn rfl<|k1 (al 12) ?_
 refine rn rfl<|ed<|c8<|d8 ?_
 refine aq7 11<|c9 ?_
 refine rn rfl<|k0 (iR j l)<|k2 (stE 5 (L2 (⟨a.1,a.2.1,a.2.2.1,a.2.2.2.1,a.2.2.2.2.1⟩ : D3)) ((g.set i.toNat (⟨a.1,a.2.1,a.2.2.1,a.2.2.2.1,a.2.2.2.2.1⟩ : D3)).map L2) (ab9 (z:=z48) j l) af4)<|ed<|c8 ?_
 refine H0 (J:=Jc0 E 58 r k (fun k=>B2.j0 k m n g o p q c s t d u v i a) ⟨[(0,.box 0 0),(7,.box 12 0)],[(0,.box 37 [.row 1,.row 2,.row 3,.row 4,.row 5,.row 6,.lit (.int .i64 c),.row 7,.row 8,.lit (.int .i64 d),.row 9,.row 10]),(1,.row 102 1 (m.map (eL 1 (eL 4 (r8))))),(2,.row 50 4 (n.map M5)),(3,.row 48 5 ((g.set i.toNat (⟨a.1,a.2.1,a.2.2.1,a.2.2.2.1,a.2.2.2.2.1⟩ : D3)).map L2)),(4,.row 96 6 (o.map I2)),(5,.row 3 1 (p.map (eI .i64))),(6,.row 116 6 (q.map C9)),(7,.row 3 1 (s.map (eI .i64))),(8,.row 108 3 (t.map F9)),(9,.row 3 1 (u.map (eI .i64))),(10,.row 42 4 (v.map M6)),(12,.box 48 [.lit (.int .i64 a.1),.lit (.int .i64 a.2.1),.sl .n 4 (a.2.2.1.map I1),.lit (.int .i64 a.2.2.2.1),.lit (.int .i64 a.2.2.2.2.1)])]⟩) ?_ ?_
 ·intro Z y
  refine d8<|c9<|rn rfl ?_
  obtain ⟨b,H⟩|⟨b,H⟩:=oi H
  ·iterate 2 refine kx (hT (nF b)) ?_
   refine k0 (n8 (nF b))<|d9<|c8<|iF rfl<|i9<|l6 ?_
   exact aw hE [] (y.u (Nat.le_refl _) H)
  refine kv (g1 (nT (bF b))) mv<|kv (g1 (nT (bF b))) V4 ?_
  refine k0 (o8 (nT (bF b)))<|d9<|c8 ?_
  obtain ⟨w,H⟩|⟨w,H⟩:=oi H
  ·refine iF (nF w)<|i9<|l6 ?_
   exact aw hE [] (y.u (Nat.le_refl _) H)
  refine iT (nT (bF w))<|d8<|c9<|rn rfl<|d9<|c8<|f7<|f8 ?_
  refine D4 0 8 19 [.row 1,.row 2,.row 3,.row 4,.row 5,.row 6,.lit (.int .i64 c),.row 7,.row 19,.lit (.int .i64 d),.row 9,.row 10] ?_
  obtain rfl:=si H
  exact rt hE [(11,19)]
 refine jc0 (fun _=>B2.j0.eq_2 ..) fun a0 a1 H=>?_
 refine d8<|d8<|c9<|rn rfl ?_
 obtain ⟨x,V,H⟩:=f6 H
 refine kC (cl (N6.ok V) [13])<|k0 (lnR v7) ?_
 refine rn rfl<|d9<|c8<|j4 ?_
 refine D4 0 8 16 [.row 1,.row 2,.row 3,.row 4,.row 5,.row 6,.lit (.int .i64 c),.row 7,.row 16,.lit (.int .i64 d),.row 9,.row 10] ?_
 refine bM7 (fun k=>B2.l0 k x) (fun B C D F G I K L M N O P Q=>⟨[(0,.box 0 0),(42,.row 13),(43,.lit (.int .i64 (x.length : Int))),(44,.lit (.int .i64 Q))],[(0,.box 37 [.row 1,.row 2,.row 3,.row 4,.row 5,.row 6,.lit (.int .i64 K),.row 7,.row 16,.lit (.int .i64 N),.row 9,.row 10]),(1,.row 102 1 (B.map (eL 1 (eL 4 (r8))))),(2,.row 50 4 (C.map M5)),(3,.row 48 5 (D.map L2)),(4,.row 96 6 (F.map I2)),(5,.row 3 1 (G.map (eI .i64))),(6,.row 116 6 (I.map C9)),(7,.row 3 1 (L.map (eI .i64))),(8,.gone),(9,.row 3 1 (O.map (eI .i64))),(10,.row 42 4 (P.map M6)),(13,.row 88 7 (x.map e88)),(16,.row 108 3 (M.map F9))]⟩) H (fun _ h=>aw hE [] h) (fun _ _ _ _ _ _ _ _ _ _ _ _ _ _=>B2.l0.eq_2 ..) fun a2 B C D F G I K L M N O P Q a3 H a4 W=>?_
 refine d8<|c9<|rn rfl<|d9<|c8<|d8 ?_
 obtain ⟨e,H⟩|⟨e,H⟩:=oi H
 ·refine iT (decide_eq_true e)<|i9<|c8<|d8<|j4<|d8<|c9 ?_
  obtain ⟨R,H⟩:=i8 H
  refine k0 (iR R e)<|k0 (qA 7 R e)<|k1 (al 17) ?_
  refine rn rfl<|d9<|c8<|d8<|c9<|rn rfl ?_
  obtain ⟨a5,X,H⟩:=f6 H
  refine kC (cl (Q5.ok X) []) ?_
  refine rn rfl<|d9<|c8<|c9<|rn rfl ?_
  obtain ⟨a6,Y,H⟩:=f6 H
  refine kC (cl (N8.ok Y) [0,1,2,3,4,5,6,7,16,9,10,18])<|d9<|j6<|c8<|c9 ?_
  refine rn rfl<|d9<|l6 ?_
  exact aw hE [(16,18)] (W (Nat.le_refl _) H)
 refine iF (decide_eq_false e)<|m6<|j5<|j5<|n7 rfl<|c8<|d8<|c9<|rn rfl<|d9<|c8<|f7 ?_
 obtain rfl:=si H
 exact rt hE [(11,16)]
def P6.f (b : List D1) (c : List Int) (d : List A2) (e : Int) (g : List Int) : Y13:=(I5.f b c d e g).bind fun a=>(I7.f a.2.1).bind fun h=>some (a.1,a.2.1,a.2.2.1,(a.1.length : Int),h)
theorem P6.ok (H : P6.f a b c d e = some r) : j7 Tryz.prog 47 [] [.agg [.sl .o 6 (a.map I2),.sl .o 1 (b.map (eI .i64)),.sl .o 6 (c.map C9),.lit (.int .i64 d),.sl .o 1 (e.map (eI .i64))]] [(0,.row 96 6 (r.1.map I2)),(1,.row 3 1 (r.2.1.map (eI .i64))),(2,.row 116 6 (r.2.2.1.map C9)),(3,.row 3 1 (r.2.2.2.2.map (eI .i64)))] (.agg [.row 0,.row 1,.row 2,.lit (.int .i64 r.2.2.2.1),.row 3]):=by
 refine u3 15 Tryz.func47 fun E hE=>?_
 rw [P6.f] at H
 refine d8<|c9<|k1 (K2 0)<|k1 (al 1)<|d9<|c8<|d8<|c9 ?_
 refine rn rfl ?_
 obtain ⟨i,g,H⟩:=f6 H
 refine kC (cl (I5.ok g) [2,3,4,5])<|k1 (al 6) ?_
 refine rn rfl<|d9<|c8<|d8<|c9<|rn rfl<|k0 (lnR v7) ?_
 refine rn rfl<|d9<|c8<|d8<|c9<|rn rfl ?_
 obtain ⟨j,h,H⟩:=f6 H
 refine kC (cl (I7.ok h) [7]) ?_
 refine rn rfl<|d9<|c8<|d8<|c9<|rn rfl<|d9<|c8<|f7 ?_
 obtain rfl:=si H
 exact rt hE [(0,2),(1,3),(2,4),(3,7)] (hr:=(D5 5 .nil))
def G6.j0 : Nat→((List D1)×(List Int)×(List A2)×Int×(List Int))→(List D1)→Y13
 | 0,_,_=>none
 | d + 1,a,b=>(I7.f a.2.2.2.2).bind fun c=>some (b,c,([] : List A2),a.2.2.2.1,a.2.2.2.2)
def G6.f (k : Nat) (c : List D1) (d : List Int) (e : List A2) (a : Int) (g : List Int) : Y13:=(I5.f c d e a g).bind fun b=>(j8.f a 0 (c.length : Int)).bind fun h=>if h = true then (if 0≤a then (if a≤(b.1.length : Int) then G6.j0 k b (b.1.take a.toNat) else none) else none) else G6.j0 k b b.1
theorem G6.ok (H : G6.f k g h i c j = some r) : j7 Tryz.prog 77 [] [.agg [.sl .o 6 (g.map I2),.sl .o 1 (h.map (eI .i64)),.sl .o 6 (i.map C9),.lit (.int .i64 c),.sl .o 1 (j.map (eI .i64))]] [(0,.row 96 6 (r.1.map I2)),(1,.row 3 1 (r.2.1.map (eI .i64))),(2,.row 116 6 (r.2.2.1.map C9)),(3,.row 3 1 (r.2.2.2.2.map (eI .i64)))] (.agg [.row 0,.row 1,.row 2,.lit (.int .i64 r.2.2.2.1),.row 3]):=by
 refine u3 25 Tryz.func77 fun E hE=>?_
 rw [G6.f] at H
 refine d8<|c9<|k1 (K2 0)<|k1 (al 1)<|d9<|c8<|d8<|c9 ?_
 refine rn rfl ?_
 obtain ⟨a,l,H⟩:=f6 H
 refine kC (cl (I5.ok l) [2,3,4,5])<|k1 (al 6) ?_
 refine rn rfl<|d9<|c8 ?_
 refine H0 (J:=Jc1 E 25 r k (fun k=>G6.j0 k a) (fun d=>⟨[(2,.box 1 0),(3,.box 6 0)],[(1,.box 33 [.lit (.slice none 0 0),.lit (.slice none 0 0),.lit (.slice none 0 0),.lit (.int .i64 0),.lit (.slice none 0 0)]),(3,.row 3 1 (a.2.1.map (eI .i64))),(4,.row 116 6 (a.2.2.1.map C9)),(5,.row 3 1 (a.2.2.2.2.map (eI .i64))),(6,.box 33 [.row 7,.row 3,.row 4,.lit (.int .i64 a.2.2.2.1),.row 5]),(7,.row 96 6 (d.map I2))]⟩)) ?_ ?_
 ·intro q e
  refine d8<|c9<|rn rfl<|k0 (G3 v7) ?_
  obtain ⟨s,m,H⟩:=f6 H
  refine kC (cl (j8.ok m) [])<|d9<|c8 ?_
  obtain ⟨b,H⟩|⟨b,H⟩:=oi H
  ·refine iT b<|c9<|rn rfl ?_
   obtain ⟨n,H⟩:=i8 H
   obtain ⟨o,H⟩:=i8 H
   refine k0 (srH 96 n o) ?_
   refine rn rfl<|d9 ?_
   refine bR2 6 0 7 ((a.1.take c.toNat).map I2) [.row 7,.row 3,.row 4,.lit (.int .i64 a.2.2.2.1),.row 5] ?_ (List.map_take ..).symm
   refine l6 ?_
   exact aw hE [] (e.u (Nat.le_refl _) H)
  refine iF (bF b)<|i9<|l6 ?_
  exact aw hE [(7,2)] (e.u (Nat.le_refl _) H)
 refine jc1 (fun _ _=>G6.j0.eq_2 ..) fun t d u H=>?_
 refine d8<|c9<|rn rfl ?_
 obtain ⟨v,p,H⟩:=f6 H
 refine kC (cl (I7.ok p) [8]) ?_
 refine rn rfl<|d9<|c8<|d8<|c9<|k1 (u7 9 116 6 [.int .i64 0,.int .i64 0,.int .i64 0,.int .i64 0,.int .i64 0,.int .i64 0] (([] : List A2).map C9)) ?_
 refine rn rfl<|d9<|c8<|d8<|c9<|rn rfl<|d9<|c8<|f7 ?_
 obtain rfl:=si H
 exact rt hE [(0,7),(1,8),(2,9),(3,5)] (hr:=(D5 5 .nil))
def aa1.f (d : List D1) (e : List Int) (g : List A2) (h : Int) (b : List Int) (a : Int) : Y17:=(j8.f a 0 (wrap64 ((b.length : Int) - 1))).bind fun c=>if c = true then if 0≤a then (if a < (b.length : Int) then some (2,a,(rd b a),0,0,0,0,true) else none) else none else some (0,0,0,0,0,0,0,false)
theorem aa1.ok (H : aa1.f b c d e g h = some r) : j7 Tryz.prog 48 [] [.agg [.sl .o 6 (b.map I2),.sl .o 1 (c.map (eI .i64)),.sl .o 6 (d.map C9),.lit (.int .i64 e),.sl .o 1 (g.map (eI .i64))],.lit (.int .i64 h)] [] (.tup [.agg [.lit (.int .i64 r.1),.lit (.int .i64 r.2.1),.lit (.int .i64 r.2.2.1),.lit (.int .i64 r.2.2.2.1),.lit (.int .i64 r.2.2.2.2.1),.lit (.int .i64 r.2.2.2.2.2.1),.lit (.int .i64 r.2.2.2.2.2.2.1)],.lit (.bool r.2.2.2.2.2.2.2)]):=by
 refine u3 21 Tryz.func48 fun E hE=>?_
 rw [aa1.f] at H
 refine d8<|c9<|k1 (K2 0)<|k1 (al 1) ?_
 refine rn rfl<|d9<|c8<|d8<|d8<|c9<|rn rfl<|k0 (G3 v7) ?_
 refine rn rfl ?_
 obtain ⟨l,i,H⟩:=f6 H
 refine kC (cl (j8.ok i) []) ?_
 refine rn rfl<|d9<|c8 ?_
 obtain ⟨a,H⟩|⟨a,H⟩:=oi H
 ·refine iF (nF a)<|i9<|c8<|d8<|c9<|rn rfl ?_
  obtain ⟨j,H⟩:=i8 H
  obtain ⟨k,H⟩:=i8 H
  refine k0 (iS j k) ?_
  refine rn rfl<|d9<|c8<|f7 ?_
  obtain rfl:=si H
  exact rt hE [] (hr:=(D5 7 (.tmp .nil)))
 refine iT (nT (bF a))<|d8<|c9<|rn rfl<|d9<|c8<|f7<|f8 ?_
 obtain rfl:=si H
 exact rt hE [] (hr:=(D5 7 (.tmp .nil)))
def S0.f (b : ByteArray) (a : Int) : Y55:=if 0≤a then (if a < (b.size : Int) then (if 0≤(wrap64 (a + 1)) then (if (wrap64 (a + 1)) < (b.size : Int) then (if 0≤(wrap64 (a + 2)) then (if (wrap64 (a + 2)) < (b.size : Int) then (if 0≤(wrap64 (a + 3)) then (if (wrap64 (a + 3)) < (b.size : Int) then some (bits .or .i64 (bits .or .i64 (bits .or .i64 (wrap64 ((wrap64 (bt b a)) * 2 ^ 24)) (wrap64 ((wrap64 (bt b (wrap64 (a + 1)))) * 2 ^ 16))) (wrap64 ((wrap64 (bt b (wrap64 (a + 2)))) * 2 ^ 8))) (wrap64 (bt b (wrap64 (a + 3))))) else none) else none) else none) else none) else none) else none) else none) else none
theorem S0.ok (H : S0.f a b = some r) : j7 Tryz.prog 280 [] [.lit (.string a),.lit (.int .i64 b)] [] (.lit (.int .i64 r)):=by
 refine u3 30 Tryz.func280 fun E hE=>?_
 rw [S0.f] at H
 refine d8<|c9<|rn rfl<|d9<|c8<|d8<|c9<|rn rfl ?_
 obtain ⟨c,H⟩:=i8 H
 obtain ⟨d,H⟩:=i8 H
 refine k0 (ixT c d) ?_
 refine rn rfl<|k0 (bv9 (by decide : (0 : Int)≤24)) ?_
 refine rn rfl ?_
 obtain ⟨e,H⟩:=i8 H
 obtain ⟨g,H⟩:=i8 H
 refine k0 (ixT e g) ?_
 refine rn rfl<|k0 (bv9 (by decide : (0 : Int)≤16)) ?_
 refine rn rfl ?_
 obtain ⟨h,H⟩:=i8 H
 obtain ⟨i,H⟩:=i8 H
 refine k0 (ixT h i) ?_
 refine rn rfl<|k0 (bv9 (by decide : (0 : Int)≤8)) ?_
 refine rn rfl ?_
 obtain ⟨j,H⟩:=i8 H
 obtain ⟨k,H⟩:=i8 H
 refine k0 (ixT j k) ?_
 refine rn rfl<|ed<|c8<|f7 ?_
 obtain rfl:=si H
 exact rt hE []
def X8.f (k : Nat) (a : ByteArray) : Y39:=(j8.f (wrap64 ((a.size : Int) - 4)) 0 20000).bind fun b=>(if b = true then (if 0≤(wrap64 ((a.size : Int) - 4)) then (if (wrap64 ((a.size : Int) - 4))≤(a.size : Int) then ((aa2.f k (a.extract 0 (wrap64 ((a.size : Int) - 4)).toNat)).bind fun c=>((S0.f a (wrap64 ((a.size : Int) - 4))).bind fun d=>if (wrap64 c) = d then some (a.extract 0 (wrap64 ((a.size : Int) - 4)).toNat,true) else some (ByteArray.empty,false))) else none) else none) else some (ByteArray.empty,false))
theorem X8.ok (H : X8.f k e = some r) : j7 Tryz.prog 278 [] [.lit (.string e)] [] (.tup [.lit (.string r.1),.lit (.bool r.2)]):=by
 refine u3 25 Tryz.func278 fun E hE=>?_
 rw [X8.f] at H
 refine d8<|c9<|rn rfl<|d9<|c8<|d8<|c9<|rn rfl<|d9<|c8<|d8<|d8<|c9<|rn rfl ?_
 obtain ⟨j,g,H⟩:=f6 H
 refine kC (cl (j8.ok g) []) ?_
 refine rn rfl ?_
 obtain ⟨a,H⟩|⟨a,H⟩:=oi H
 ·refine kv (g1 (nF a)) mv<|kv (g1 (nF a)) mv ?_
  obtain ⟨c,H⟩:=i8 H
  obtain ⟨d,H⟩:=i8 H
  refine kv (g1 (nF a)) (tsH c d) ?_
  obtain ⟨l,h,H⟩:=f6 H
  refine N5 (g1 (nF a)) (cl (aa2.ok h) [])<|kv (g1 (nF a)) bV4<|kv (g1 (nF a)) mv<|kv (g1 (nF a)) mv ?_
  obtain ⟨m,i,H⟩:=f6 H
  refine N5 (g1 (nF a)) (cl (S0.ok i) [])<|kv (g1 (nF a)) neq ?_
  refine k0 (n8 (nF a))<|d9<|c8 ?_
  obtain ⟨b,H⟩|⟨b,H⟩:=oi H
  ·refine iF (eM b)<|i9<|c8<|d8<|c9<|rn rfl<|k0 (tsH c d) ?_
   refine rn rfl<|d9<|c8<|f7 ?_
   obtain rfl:=si H
   exact rt hE []
  refine iT (eN b)<|d8<|c9<|rn rfl<|d9<|c8<|f7<|f8 ?_
  obtain rfl:=si H
  exact rt hE []
 iterate 9 refine kx (hF (nT (bF a))) ?_
 refine k0 (o8 (nT (bF a)))<|d9<|c8<|iT rfl<|d8<|c9 ?_
 refine rn rfl<|d9<|c8<|f7<|f8 ?_
 obtain rfl:=si H
 exact rt hE []
def G5.l0 : Nat→ByteArray→Int→Int→Int→Y41
 | 0,_,_,_,_=>none
 | e + 1,c,b,d,a=>if a < 5 then if (wrap64 (b + a)) < (c.size : Int) then if 0≤(wrap64 (b + a)) then (if 0≤(wrap64 (7 * a)) then if (bt c (wrap64 (b + a))) > 127 then G5.l0 e c b (bits .or .i64 d (wrap64 ((wrap64 (bits .and .u8 (bt c (wrap64 (b + a))) 127)) * 2 ^ (min (wrap64 (7 * a)).toNat (IntKind.i64).bits)))) (wrap64 (a + 1)) else (F2.f e (bits .or .i64 d (wrap64 ((wrap64 (bits .and .u8 (bt c (wrap64 (b + a))) 127)) * 2 ^ (min (wrap64 (7 * a)).toNat (IntKind.i64).bits))))).bind fun g=>if g.2 = true then (if 0≤b then (if b≤(wrap64 ((wrap64 (b + a)) + 1)) then (if (wrap64 ((wrap64 (b + a)) + 1))≤(c.size : Int) then if (g.1.toList == (c.extract b.toNat (wrap64 ((wrap64 (b + a)) + 1)).toNat).toList) = true then some (bits .or .i64 d (wrap64 ((wrap64 (bits .and .u8 (bt c (wrap64 (b + a))) 127)) * 2 ^ (min (wrap64 (7 * a)).toNat (IntKind.i64).bits))),wrap64 ((wrap64 (b + a)) + 1),true) else some (0,0,false) else none) else none) else none) else some (0,0,false) else none) else none else some (0,0,false) else some (0,0,false)
def G5.f (k : Nat) (a : ByteArray) (b : Int) : Y41:=(j8.f b 0 (a.size : Int)).bind fun c=>if c = true then G5.l0 k a b 0 0 else some (0,0,false)
theorem G5.ok (H : G5.f k d e = some r) : j7 Tryz.prog 279 [] [.lit (.string d),.lit (.int .i64 e)] [] (.tup [.lit (.int .i64 r.1),.lit (.int .i64 r.2.1),.lit (.bool r.2.2)]):=by
 refine u3 69 Tryz.func279 fun E hE=>?_
 rw [G5.f] at H
 refine d8<|c9<|rn rfl<|d9<|c8<|d8<|d8<|c9<|rn rfl ?_
 obtain ⟨w,o,H⟩:=f6 H
 refine kC (cl (j8.ok o) []) ?_
 refine rn rfl<|d9<|c8 ?_
 obtain ⟨g,H⟩|⟨g,H⟩:=oi H
 ·refine iF (nF g)<|i9<|c8<|d8<|c9<|rn rfl<|d9<|c8<|d8<|d8<|c9<|rn rfl<|d9<|c8<|j4 ?_
  refine V7 (fun k=>G5.l0 k d e) (fun l m=>⟨[(0,.lit (.string d)),(1,.lit (.int .i64 e)),(7,.lit (.int .i64 l)),(8,.lit (.int .i64 m))],[]⟩) H (fun _ h=>aw hE [] h) (fun _ _ _=>G5.l0.eq_2 ..) fun x l m y H z p=>?_
  refine d8<|d8<|c9<|rn rfl ?_
  obtain ⟨b,H⟩|⟨b,H⟩:=oi H
  ·refine kv (g1 (decide_eq_true b)) mv<|kv (g1 (decide_eq_true b)) mv<|kv (g1 (decide_eq_true b)) aA4<|kv (g1 (decide_eq_true b)) mv<|kv (g1 (decide_eq_true b)) lnT<|kv (g1 (decide_eq_true b)) lss ?_
   refine k0 (o8 (decide_eq_true b))<|d9<|c8 ?_
   obtain ⟨c,H⟩|⟨c,H⟩:=oi H
   ·refine iT (decide_eq_true c)<|i9<|c8<|d8<|j4<|d8<|c9<|rn rfl ?_
    obtain ⟨n,H⟩:=i8 H
    refine k0 (ixT n c) ?_
    refine rn rfl ?_
    obtain ⟨q,H⟩:=i8 H
    refine k0 (bv9 q) ?_
    refine rn rfl<|d9<|c8<|d8<|d8<|c9<|rn rfl<|k0 (ixT n c) ?_
    refine rn rfl<|d9<|c8 ?_
    obtain ⟨i,H⟩|⟨i,H⟩:=oi H
    ·refine iT (decide_eq_true i)<|m6<|j5<|n7 rfl<|c8<|c9<|rn rfl<|d9<|l6 ?_
     exact aw hE [] (p (Nat.le_refl _) H)
    refine iF (decide_eq_false i)<|i9<|c8<|d8<|d8<|c9<|rn rfl ?_
    obtain ⟨B,s,H⟩:=f6 H
    refine kC (cl (F2.ok s) []) ?_
    refine rn rfl<|d9<|c8<|d8<|c9<|rn rfl ?_
    obtain ⟨a,H⟩|⟨a,H⟩:=oi H
    ·refine kv (g1 (nF a)) mv<|kv (g1 (nF a)) mv<|kv (g1 (nF a)) mv<|kv (g1 (nF a)) mv<|kv (g1 (nF a)) mv<|kv (g1 (nF a)) aA4<|kv (g1 (nF a)) aA4 ?_
     obtain ⟨t,H⟩:=i8 H
     obtain ⟨u,H⟩:=i8 H
     obtain ⟨v,H⟩:=i8 H
     refine kv (g1 (nF a)) (bw9 t u v)<|kv (g1 (nF a)) sne ?_
     refine k0 (n8 (nF a))<|d9<|c8 ?_
     obtain ⟨j,H⟩|⟨j,H⟩:=oi H
     ·refine iF (nF j)<|i9<|c8<|d8<|c9<|rn rfl<|d9<|c8<|f7<|l7<|f8<|f8<|l7<|f8 ?_
      obtain rfl:=si H
      exact rt hE []
     refine iT (nT (bF j))<|d8<|c9<|rn rfl<|d9<|c8<|f7<|f8<|l7<|f8<|f8<|l7<|f8 ?_
     obtain rfl:=si H
     exact rt hE []
    iterate 9 refine kx (hF (nT (bF a))) ?_
    refine k0 (o8 (nT (bF a)))<|d9<|c8<|iT rfl<|d8<|c9 ?_
    refine rn rfl<|d9<|c8<|f7<|f8<|l7<|f8<|f8<|l7<|f8 ?_
    obtain rfl:=si H
    exact rt hE []
   refine iF (decide_eq_false c)<|m6<|j5<|j5<|n7 rfl<|c8<|d8<|c9<|rn rfl<|d9<|c8<|f7 ?_
   obtain rfl:=si H
   exact rt hE []
  iterate 6 refine kx (hT (decide_eq_false b)) ?_
  refine k0 (n8 (decide_eq_false b))<|d9<|c8<|iF rfl<|m6<|j5<|j5<|n7 rfl<|c8<|d8<|c9 ?_
  refine rn rfl<|d9<|c8<|f7 ?_
  obtain rfl:=si H
  exact rt hE []
 refine iT (nT (bF g))<|d8<|c9<|rn rfl<|d9<|c8<|f7<|f8 ?_
 obtain rfl:=si H
 exact rt hE []
def Q7.f (k : Nat) (g : ByteArray) : Y17:=(X8.f k g).bind fun a=>if a.2 = true then if (a.1.size : Int) < 2 then some (0,0,0,0,0,0,0,false) else (G5.f k a.1 2).bind fun b=>if b.2.2 = true then if (wrap64 ((a.1.size : Int) - b.2.1)) < 9 then some (0,0,0,0,0,0,0,false) else (G5.f k a.1 (wrap64 (b.2.1 + 9))).bind fun c=>if 0 < (a.1.size : Int) then (if 1 < (a.1.size : Int) then (if 0≤b.2.1 then (if b.2.1 < (a.1.size : Int) then ((S0.f a.1 (wrap64 (b.2.1 + 1))).bind fun d=>((S0.f a.1 (wrap64 (b.2.1 + 5))).bind fun e=>if c.2.2 = true then (if c.2.1 = (a.1.size : Int) then ((P8.f (wrap64 (bt a.1 0)) (wrap64 (bt a.1 1)) b.1 (wrap64 (bt a.1 b.2.1)) d e c.1).bind fun h=>if h = true then some (wrap64 (bt a.1 0),wrap64 (bt a.1 1),b.1,wrap64 (bt a.1 b.2.1),d,e,c.1,true) else some (0,0,0,0,0,0,0,false)) else some (0,0,0,0,0,0,0,false)) else some (0,0,0,0,0,0,0,false))) else none) else none) else none) else none else some (0,0,0,0,0,0,0,false) else some (0,0,0,0,0,0,0,false)
theorem Q7.ok (H : Q7.f k i = some r) : j7 Tryz.prog 217 [] [.lit (.string i)] [] (.tup [.agg [.lit (.int .i64 r.1),.lit (.int .i64 r.2.1),.lit (.int .i64 r.2.2.1),.lit (.int .i64 r.2.2.2.1),.lit (.int .i64 r.2.2.2.2.1),.lit (.int .i64 r.2.2.2.2.2.1),.lit (.int .i64 r.2.2.2.2.2.2.1)],.lit (.bool r.2.2.2.2.2.2.2)]):=by
 refine u3 87 Tryz.func217 fun E hE=>?_
 rw [Q7.f] at H
 refine d8<|c9<|k1 (al 0) ?_
 refine rn rfl<|d9<|c8<|d8<|c9<|rn rfl ?_
 obtain ⟨v,j,H⟩:=f6 H
 refine kC (cl (X8.ok j) []) ?_
 refine rn rfl<|d9<|c8<|d8<|d8<|c9<|rn rfl ?_
 obtain ⟨c,H⟩|⟨c,H⟩:=oi H
 ·refine kv (g1 (nF c)) mv<|kv (g1 (nF c)) lnT<|kv (g1 (nF c)) lss ?_
  refine k0 (n8 (nF c))<|d9<|c8 ?_
  obtain ⟨e,H⟩|⟨e,H⟩:=oi H
  ·refine iT (decide_eq_true e)<|d8<|c9<|rn rfl<|d9<|c8<|f7<|f8 ?_
   obtain rfl:=si H
   exact rt hE [] (hr:=(D5 7 (.tmp .nil)))
  refine iF (decide_eq_false e)<|i9<|c8<|d8<|c9<|rn rfl ?_
  obtain ⟨w,l,H⟩:=f6 H
  refine kC (cl (G5.ok l) []) ?_
  refine rn rfl<|d9<|c8<|d8<|d8<|c9<|rn rfl ?_
  obtain ⟨a,H⟩|⟨a,H⟩:=oi H
  ·refine kv (g1 (nF a)) mv<|kv (g1 (nF a)) lnT<|kv (g1 (nF a)) mv<|kv (g1 (nF a)) aQ7<|kv (g1 (nF a)) lss ?_
   refine k0 (n8 (nF a))<|d9<|c8 ?_
   obtain ⟨g,H⟩|⟨g,H⟩:=oi H
   ·refine iT (decide_eq_true g)<|d8<|c9<|rn rfl<|d9<|c8<|f7<|f8 ?_
    obtain rfl:=si H
    exact rt hE [] (hr:=(D5 7 (.tmp .nil)))
   refine iF (decide_eq_false g)<|i9<|c8<|d8<|c9<|rn rfl ?_
   obtain ⟨x,m,H⟩:=f6 H
   refine kC (cl (G5.ok m) []) ?_
   refine rn rfl<|d9<|c8<|d8<|c9<|rn rfl ?_
   obtain ⟨n,H⟩:=i8 H
   refine k0 (ixT (by decide : (0 : Int)≤0) n) ?_
   refine rn rfl ?_
   obtain ⟨o,H⟩:=i8 H
   refine k0 (ixT (by decide : (0 : Int)≤1) o) ?_
   refine rn rfl ?_
   obtain ⟨p,H⟩:=i8 H
   obtain ⟨q,H⟩:=i8 H
   refine k0 (ixT p q) ?_
   refine rn rfl ?_
   obtain ⟨y,s,H⟩:=f6 H
   refine kC (cl (S0.ok s) []) ?_
   refine rn rfl ?_
   obtain ⟨z,t,H⟩:=f6 H
   refine kC (cl (S0.ok t) []) ?_
   refine rn rfl<|k1 (al 1) ?_
   refine rn rfl<|ed<|c8<|d8<|d8<|c9<|rn rfl ?_
   obtain ⟨b,H⟩|⟨b,H⟩:=oi H
   ·refine kv (g1 (nF b)) mv<|kv (g1 (nF b)) mv<|kv (g1 (nF b)) lnT<|kv (g1 (nF b)) neq ?_
    refine k0 (n8 (nF b)) ?_
    refine rn rfl ?_
    obtain ⟨d,H⟩|⟨d,H⟩:=oi H
    ·refine kv (g1 (eM d)) (bA 7) ?_
     obtain ⟨B,u,H⟩:=f6 H
     refine N5 (g1 (eM d)) (cl (P8.ok u) [])<|kv (g1 (eM d)) V4 ?_
     refine k0 (n8 (eM d))<|d9<|c8 ?_
     obtain ⟨h,H⟩|⟨h,H⟩:=oi H
     ·refine iF (nF h)<|i9<|c8<|d8<|c9<|rn rfl<|d9<|c8<|f7 ?_
      obtain rfl:=si H
      exact rt hE [] (hr:=(D5 7 (.tmp .nil)))
     refine iT (nT (bF h))<|d8<|c9<|rn rfl<|d9<|c8<|f7<|f8 ?_
     obtain rfl:=si H
     exact rt hE [] (hr:=(D5 7 (.tmp .nil)))
    iterate 3 refine kx (hF (eN d)) ?_
    refine k0 (o8 (eN d))<|d9<|c8<|iT rfl<|d8<|c9 ?_
    refine rn rfl<|d9<|c8<|f7<|f8 ?_
    obtain rfl:=si H
    exact rt hE [] (hr:=(D5 7 (.tmp .nil)))
   iterate 4 refine kx (hF (nT (bF b))) ?_
   refine k0 (o8 (nT (bF b))) ?_
   refine rn rfl ?_
   iterate 3 refine kx (hF rfl) ?_
   refine k0 (o8 rfl)<|d9<|c8<|iT rfl<|d8<|c9 ?_
   refine rn rfl<|d9<|c8<|f7<|f8 ?_
   obtain rfl:=si H
   exact rt hE [] (hr:=(D5 7 (.tmp .nil)))
  iterate 5 refine kx (hF (nT (bF a))) ?_
  refine k0 (o8 (nT (bF a)))<|d9<|c8<|iT rfl<|d8<|c9 ?_
  refine rn rfl<|d9<|c8<|f7<|f8 ?_
  obtain rfl:=si H
  exact rt hE [] (hr:=(D5 7 (.tmp .nil)))
 iterate 3 refine kx (hF (nT (bF c))) ?_
 refine k0 (o8 (nT (bF c)))<|d9<|c8<|iT rfl<|d8<|c9 ?_
 refine rn rfl<|d9<|c8<|f7<|f8 ?_
 obtain rfl:=si H
 exact rt hE [] (hr:=(D5 7 (.tmp .nil)))
def F5.l0 : Nat→(List A2)→Int→Int→Int→Y55
 | 0,_,_,_,_=>none
 | e + 1,b,c,d,a=>if a < (b.length : Int) then if 0≤a then if ((J4 b a).f0) = c then if ((J4 b a).f1) = d then some a else F5.l0 e b c d (wrap64 (a + 1)) else F5.l0 e b c d (wrap64 (a + 1)) else none else some (-1)
def F5.f (k : Nat) (a : List A2) (b : Int) (c : Int) : Y55:=F5.l0 k a b c 0
theorem F5.ok (H : F5.f k b d e = some r) : j7 Tryz.prog 133 [] [.sl .o 6 (b.map C9),.lit (.int .i64 d),.lit (.int .i64 e)] [] (.lit (.int .i64 r)):=by
 refine u3 28 Tryz.func133 fun E hE=>?_
 rw [F5.f] at H
 refine d8<|c9<|rn rfl<|d9<|c8<|d8<|d8<|c9<|rn rfl<|k0 (G3 v7) ?_
 refine rn rfl<|d9<|c8<|j4 ?_
 refine lp1 (fun k=>F5.l0 k b d e) (fun i=>⟨[(1,.lit (.int .i64 d)),(2,.lit (.int .i64 e)),(9,.sl .o 6 (b.map C9)),(10,.lit (.int .i64 (b.length : Int))),(11,.lit (.int .i64 i))],[]⟩) H (fun _ h=>aw hE [] h) (fun _ _=>F5.l0.eq_2 ..) fun m i n H o j=>?_
 refine d8<|c9<|rn rfl<|d9<|c8<|d8 ?_
 obtain ⟨c,H⟩|⟨c,H⟩:=oi H
 ·refine iT (decide_eq_true c)<|i9<|c8<|d8<|j4<|d8<|c9<|rn rfl ?_
  obtain ⟨l,H⟩:=i8 H
  refine k0 (iS l c) ?_
  refine rn rfl<|k1 (al 0) ?_
  refine rn rfl<|d9<|c8<|d8<|c9<|rn rfl ?_
  obtain ⟨a,H⟩|⟨a,H⟩:=oi H
  ·refine kv (g1 (eT a)) (y8 1 1)<|kv (g1 (eT a)) B5<|kv (g1 (eT a)) mv<|kv (g1 (eT a)) eql ?_
   refine k0 (o8 (eT a))<|d9<|c8 ?_
   obtain ⟨g,H⟩|⟨g,H⟩:=oi H
   ·refine iT (eT g)<|d8<|c9<|rn rfl<|d9<|c8<|f7<|l7<|f8<|f8<|l7<|f8 ?_
    obtain rfl:=si H
    exact rt hE []
   refine iF (eF g)<|i9<|j6<|c8<|c9<|rn rfl<|d9<|l6 ?_
   exact aw hE [] (j (Nat.le_refl _) H)
  iterate 4 refine kx (hT (eF a)) ?_
  refine k0 (n8 (eF a))<|d9<|c8<|iF rfl<|i9<|j6<|c8<|c9 ?_
  refine rn rfl<|d9<|l6 ?_
  exact aw hE [] (j (Nat.le_refl _) H)
 refine iF (decide_eq_false c)<|m6<|j5<|j5<|n7 rfl<|c8<|d8<|c9<|rn rfl<|d9<|c8<|f7 ?_
 obtain rfl:=si H
 exact rt hE []
end Go.Proofs.YtahmbcgolnplgaaGreat.PFnNoHoles
