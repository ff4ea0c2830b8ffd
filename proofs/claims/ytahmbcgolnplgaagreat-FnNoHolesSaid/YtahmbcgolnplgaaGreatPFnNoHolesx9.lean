import Derived.Test.YtahmbcgolnplgaaGreatPFnNoHolesx8
set_option linter.unusedVariables false
set_option linter.unusedSimpArgs false
set_option autoImplicit true
set_option relaxedAutoImplicit true
set_option maxRecDepth 100000
set_option maxHeartbeats 4000000
namespace Go.Proofs.YtahmbcgolnplgaaGreat.PFnNoHoles
open Go Go.RowKit Go.Proofs.YtahmbcgolnplgaaGreatA
mutual
def m5.l0 : Nat→Int→Int→Int→Y40→(List H7)→(List D3)→(List D1)→(List Int)→(List A2)→Int→(List Int)→(List C7)→Int→(List Int)→(List E9)→Y3
 | 0,_,_,_,_,_,_,_,_,_,_,_,_,_,_,_=>none
 | k + 1,e,g,c,X,Y,Z,a0,a1,a2,a3,a4,a5,a6,a7,a8=>(O8.f k X Y Z a0 a1 a2 a3 a4 a5 a6 a7 a8 c).bind fun a=>if a.1 = true then m5.l0 k e g c a.2.1 a.2.2.1 a.2.2.2.1 a.2.2.2.2.1 a.2.2.2.2.2.1 a.2.2.2.2.2.2.1 a.2.2.2.2.2.2.2.1 a.2.2.2.2.2.2.2.2.1 a.2.2.2.2.2.2.2.2.2.1 a.2.2.2.2.2.2.2.2.2.2.1 a.2.2.2.2.2.2.2.2.2.2.2.1 a.2.2.2.2.2.2.2.2.2.2.2.2 else if 0≤c then (if c < (a.2.2.2.1.length : Int) then ((U1.f k ((I0 a.2.2.2.1 c).f0) ((I0 a.2.2.2.1 c).f1) ((I0 a.2.2.2.1 c).f2) ((I0 a.2.2.2.1 c).f3) ((I0 a.2.2.2.1 c).f4) a.2.2.2.2.2.2.2.2.2.2.1).bind fun b=>(N6.f k b.1 b.2.1 b.2.2.1 b.2.2.2.1 b.2.2.2.2.1).bind fun i=>m5.l1 k e g c a b i a.2.2.2.2.1 a.2.2.2.2.2.1 a.2.2.2.2.2.2.1 a.2.2.2.2.2.2.2.1 a.2.2.2.2.2.2.2.2.1 0) else none) else none
def m5.l1 : Nat→Int→Int→Int→Y4→(Int×Int×(List u5)×Int×Int×Bool)→((List P9))→(List D1)→(List Int)→(List A2)→Int→(List Int)→Int→Y3
 | 0,_,_,_,_,_,_,_,_,_,_,_,_=>none
 | l + 1,e,g,c,a,b,i,o,p,q,r,s,j=>if j < (i.length : Int) then if 0≤j then (F0.f l o p q r s ((Z4 i j).f0) ((Z4 i j).f1) ((Z4 i j).f2) ((Z4 i j).f3.f0) ((Z4 i j).f3.f1) ((Z4 i j).f3.f2) ((Z4 i j).f3.f3)).bind fun m=>m5.l1 l e g c a b i m.1 m.2.1 m.2.2.1 m.2.2.2.1 m.2.2.2.2.1 (wrap64 (j + 1)) else none else (P6.f o p q r s).bind fun d=>(aa1.f d.1 d.2.1 d.2.2.1 d.2.2.2.1 d.2.2.2.2 c).bind fun t=>if t.2.2.2.2.2.2.2 = true then (if c < ((a.2.2.2.1.set c.toNat (⟨b.1,b.2.1,b.2.2.1,b.2.2.2.1,b.2.2.2.2.1⟩ : D3)).length : Int) then ((Z8.f l ((I0 (a.2.2.2.1.set c.toNat (⟨b.1,b.2.1,b.2.2.1,b.2.2.2.1,b.2.2.2.2.1⟩ : D3)) c).f0) ((I0 (a.2.2.2.1.set c.toNat (⟨b.1,b.2.1,b.2.2.1,b.2.2.2.1,b.2.2.2.2.1⟩ : D3)) c).f1) ((I0 (a.2.2.2.1.set c.toNat (⟨b.1,b.2.1,b.2.2.1,b.2.2.2.1,b.2.2.2.2.1⟩ : D3)) c).f2) ((I0 (a.2.2.2.1.set c.toNat (⟨b.1,b.2.1,b.2.2.1,b.2.2.2.1,b.2.2.2.2.1⟩ : D3)) c).f3) ((I0 (a.2.2.2.1.set c.toNat (⟨b.1,b.2.1,b.2.2.1,b.2.2.2.1,b.2.2.2.2.1⟩ : D3)) c).f4) t.2.2.1).bind fun n=>m5.l2 l e g a.2.1 a.2.2.1 ((a.2.2.2.1.set c.toNat (⟨b.1,b.2.1,b.2.2.1,b.2.2.2.1,b.2.2.2.2.1⟩ : D3)).set c.toNat (⟨n.1,n.2.1,n.2.2.1,n.2.2.2.1,n.2.2.2.2⟩ : D3)) d.1 d.2.1 d.2.2.1 d.2.2.2.1 d.2.2.2.2 a.2.2.2.2.2.2.2.2.2.1 a.2.2.2.2.2.2.2.2.2.2.1 a.2.2.2.2.2.2.2.2.2.2.2.1 a.2.2.2.2.2.2.2.2.2.2.2.2 (wrap64 (c + 1))) else none) else m5.l2 l e g a.2.1 a.2.2.1 (a.2.2.2.1.set c.toNat (⟨b.1,b.2.1,b.2.2.1,b.2.2.2.1,b.2.2.2.2.1⟩ : D3)) d.1 d.2.1 d.2.2.1 d.2.2.2.1 d.2.2.2.2 a.2.2.2.2.2.2.2.2.2.1 a.2.2.2.2.2.2.2.2.2.2.1 a.2.2.2.2.2.2.2.2.2.2.2.1 a.2.2.2.2.2.2.2.2.2.2.2.2 (wrap64 (c + 1))
def m5.l2 : Nat→Int→Int→Y40→(List H7)→(List D3)→(List D1)→(List Int)→(List A2)→Int→(List Int)→(List C7)→Int→(List Int)→(List E9)→Int→Y3
 | 0,_,_,_,_,_,_,_,_,_,_,_,_,_,_,_=>none
 | u + 1,e,g,v,w,x,y,z,B,C,D,F,G,I,J,c=>if c < 3 then m5.l0 u e g c v w x y z B C D F G I J else m5.l3 u e v w x y z B C D F G I J (wrap64 (g + 1))
def m5.l3 : Nat→Int→Y40→(List H7)→(List D3)→(List D1)→(List Int)→(List A2)→Int→(List Int)→(List C7)→Int→(List Int)→(List E9)→Int→Y3
 | 0,_,_,_,_,_,_,_,_,_,_,_,_,_,_=>none
 | K + 1,e,L,M,N,O,P,Q,R,T,a9,U,V,W,g=>if g < (max 0 (min e 40)) then (C8.f K L M N O P Q R T a9 U V W 5).bind fun h=>m5.l2 K e g h.1 h.2.1 h.2.2.1 h.2.2.2.1 h.2.2.2.2.1 h.2.2.2.2.2.1 h.2.2.2.2.2.2.1 h.2.2.2.2.2.2.2.1 h.2.2.2.2.2.2.2.2.1 h.2.2.2.2.2.2.2.2.2.1 h.2.2.2.2.2.2.2.2.2.2.1 h.2.2.2.2.2.2.2.2.2.2.2 0 else some (L,M,N,O,P,Q,R,T,([] : List C7),U,V,W)
end
def m5.f (k : Nat) (c : Y42) (d : List H7) (e : List D3) (g : List D1) (h : List Int) (i : List A2) (j : Int) (l : List Int) (m : List C7) (b : Int) (n : List Int) (o : List E9) (p : Int) : Y3:=(t7.f k c d e g h i j l m b n o).bind fun a=>(j8.f b 0 100000).bind fun q=>(if q = true then ((H9.f c d e g h i j l m b n o).bind fun r=>if r = true then m5.l3 k p a.1 a.2.1 a.2.2.1 a.2.2.2.1 a.2.2.2.2.1 a.2.2.2.2.2.1 a.2.2.2.2.2.2.1 a.2.2.2.2.2.2.2.1 a.2.2.2.2.2.2.2.2.1 a.2.2.2.2.2.2.2.2.2.1 a.2.2.2.2.2.2.2.2.2.2.1 a.2.2.2.2.2.2.2.2.2.2.2 0 else some (a.1,a.2.1,a.2.2.1,a.2.2.2.1,a.2.2.2.2.1,a.2.2.2.2.2.1,a.2.2.2.2.2.2.1,a.2.2.2.2.2.2.2.1,a.2.2.2.2.2.2.2.2.1,a.2.2.2.2.2.2.2.2.2.1,a.2.2.2.2.2.2.2.2.2.2.1,a.2.2.2.2.2.2.2.2.2.2.2)) else some (a.1,a.2.1,a.2.2.1,a.2.2.2.1,a.2.2.2.2.1,a.2.2.2.2.2.1,a.2.2.2.2.2.2.1,a.2.2.2.2.2.2.2.1,a.2.2.2.2.2.2.2.2.1,a.2.2.2.2.2.2.2.2.2.1,a.2.2.2.2.2.2.2.2.2.2.1,a.2.2.2.2.2.2.2.2.2.2.2))
theorem m5.ok (H : m5.f k aI aJ aK aL aM aN aO aP aQ aR aS aT g = some r) : j7 Tryz.prog 10 [] [.agg [.sl .o 1 (aI.map (eL 1 (eL 4 (r8)))),.sl .o 4 (aJ.map M5),.sl .o 5 (aK.map L2),.sl .o 6 (aL.map I2),.sl .o 1 (aM.map (eI .i64)),.sl .o 6 (aN.map C9),.lit (.int .i64 aO),.sl .o 1 (aP.map (eI .i64)),.sl .o 3 (aQ.map F9),.lit (.int .i64 aR),.sl .o 1 (aS.map (eI .i64)),.sl .o 4 (aT.map M6)],.lit (.int .i64 g)] [(0,.row 102 1 (r.1.map (eL 1 (eL 4 (r8))))),(1,.row 50 4 (r.2.1.map M5)),(2,.row 48 5 (r.2.2.1.map L2)),(3,.row 96 6 (r.2.2.2.1.map I2)),(4,.row 3 1 (r.2.2.2.2.1.map (eI .i64))),(5,.row 116 6 (r.2.2.2.2.2.1.map C9)),(6,.row 3 1 (r.2.2.2.2.2.2.2.1.map (eI .i64))),(7,.row 108 3 (r.2.2.2.2.2.2.2.2.1.map F9)),(8,.row 3 1 (r.2.2.2.2.2.2.2.2.2.2.1.map (eI .i64))),(9,.row 42 4 (r.2.2.2.2.2.2.2.2.2.2.2.map M6))] (.agg [.row 0,.row 1,.row 2,.row 3,.row 4,.row 5,.lit (.int .i64 r.2.2.2.2.2.2.1),.row 6,.row 7,.lit (.int .i64 r.2.2.2.2.2.2.2.2.2.1),.row 8,.row 9]):=by
 refine u3 98 Tryz.func10 fun E hE=>?_
 rw [m5.f] at H
 refine d8<|c9<|k1 (K2 0)<|k1 (al 1)<|d9<|c8<|d8<|c9 ?_
 refine rn rfl ?_
 obtain ⟨b8,aU,H⟩:=f6 H
 refine kC (cl (t7.ok aU) [2,3,4,5,6,7,8,9,10,11])<|k1 (al 12) ?_
 refine rn rfl<|d9<|c8<|d8<|d8<|c9<|rn rfl ?_
 obtain ⟨b9,aV,H⟩:=f6 H
 refine kC (cl (j8.ok aV) []) ?_
 refine rn rfl ?_
 obtain ⟨j,H⟩|⟨j,H⟩:=oi H
 ·refine kv (g1 (nF j)) (bA 12) ?_
  obtain ⟨bB,aW,H⟩:=f6 H
  refine N5 (g1 (nF j)) (cl (H9.ok aW) [])<|kv (g1 (nF j)) V4 ?_
  refine k0 (n8 (nF j))<|d9<|c8 ?_
  obtain ⟨o,H⟩|⟨o,H⟩:=oi H
  ·refine iF (nF o)<|i9<|c8<|d8<|d8<|c9<|rn rfl<|k0 min_<|k0 max_ ?_
   refine rn rfl<|d9<|c8<|j4 ?_
   refine bM7 (fun k=>m5.l3 k g) (fun v w x y B C D F G I J K i=>⟨[(4,.box 1 0),(5,.box 12 0),(25,.lit (.int .i64 (max 0 (min g 40)))),(26,.lit (.int .i64 i))],[(1,.box 37 [.lit (.slice none 0 0),.lit (.slice none 0 0),.lit (.slice none 0 0),.lit (.slice none 0 0),.lit (.slice none 0 0),.lit (.slice none 0 0),.lit (.int .i64 0),.lit (.slice none 0 0),.lit (.slice none 0 0),.lit (.int .i64 0),.lit (.slice none 0 0),.lit (.slice none 0 0)]),(2,.row 102 1 (v.map (eL 1 (eL 4 (r8))))),(3,.row 50 4 (w.map M5)),(4,.row 48 5 (x.map L2)),(5,.row 96 6 (y.map I2)),(6,.row 3 1 (B.map (eI .i64))),(7,.row 116 6 (C.map C9)),(8,.row 3 1 (F.map (eI .i64))),(9,.row 108 3 (G.map F9)),(10,.row 3 1 (J.map (eI .i64))),(11,.row 42 4 (K.map M6)),(12,.box 37 [.row 2,.row 3,.row 4,.row 5,.row 6,.row 7,.lit (.int .i64 D),.row 8,.row 9,.lit (.int .i64 I),.row 10,.row 11])]⟩) H (fun _ h=>aw hE [] h) (fun _ _ _ _ _ _ _ _ _ _ _ _ _ _=>m5.l3.eq_2 ..) fun bC v w x y B C D F G I J K i bD H bE aX=>?_
   refine d8<|c9<|rn rfl<|d9<|c8<|d8 ?_
   obtain ⟨p,H⟩|⟨p,H⟩:=oi H
   ·refine iT (decide_eq_true p)<|i9<|c8<|d8<|j4<|d8<|c9 ?_
    obtain ⟨bG,aY,H⟩:=f6 H
    refine kC (cl (C8.ok aY) [12,2,3,4,5,6,7,8,9,10,11])<|d9<|c8<|d8<|c9 ?_
    refine rn rfl<|d9<|c8<|j4 ?_
    refine bM7 (fun k=>m5.l2 k g i) (fun L M N O P Q R T U V W X c=>⟨[(4,.box 1 0),(5,.box 12 0),(25,.lit (.int .i64 (max 0 (min g 40)))),(26,.lit (.int .i64 i)),(29,.lit (.int .i64 c))],[(1,.box 37 [.lit (.slice none 0 0),.lit (.slice none 0 0),.lit (.slice none 0 0),.lit (.slice none 0 0),.lit (.slice none 0 0),.lit (.slice none 0 0),.lit (.int .i64 0),.lit (.slice none 0 0),.lit (.slice none 0 0),.lit (.int .i64 0),.lit (.slice none 0 0),.lit (.slice none 0 0)]),(2,.row 102 1 (L.map (eL 1 (eL 4 (r8))))),(3,.row 50 4 (M.map M5)),(4,.row 48 5 (N.map L2)),(5,.row 96 6 (O.map I2)),(6,.row 3 1 (P.map (eI .i64))),(7,.row 116 6 (Q.map C9)),(8,.row 3 1 (T.map (eI .i64))),(9,.row 108 3 (U.map F9)),(10,.row 3 1 (W.map (eI .i64))),(11,.row 42 4 (X.map M6)),(12,.box 37 [.row 2,.row 3,.row 4,.row 5,.row 6,.row 7,.lit (.int .i64 R),.row 8,.row 9,.lit (.int .i64 V),.row 10,.row 11])]⟩) H (fun _ h=>aw hE [] h) (fun _ _ _ _ _ _ _ _ _ _ _ _ _ _=>m5.l2.eq_2 ..) fun bH L M N O P Q R T U V W X c bI H bJ Y=>?_
    refine d8<|c9<|rn rfl<|d9<|c8<|d8 ?_
    obtain ⟨q,H⟩|⟨q,H⟩:=oi H
    ·refine iT (decide_eq_true q)<|i9<|c8<|d8<|j4<|d8<|c9<|rn rfl<|d9<|c8<|d8<|j4 ?_
     refine cd4 (fun k=>m5.l0 k g i c) (fun Z a0 a1 a2 a3 a4 a5 a6 a7 a8 a9 aA=>⟨[(4,.box 1 0),(5,.box 12 0),(6,.lit (.int .i64 c)),(25,.lit (.int .i64 (max 0 (min g 40)))),(26,.lit (.int .i64 i)),(29,.lit (.int .i64 c))],[(1,.box 37 [.lit (.slice none 0 0),.lit (.slice none 0 0),.lit (.slice none 0 0),.lit (.slice none 0 0),.lit (.slice none 0 0),.lit (.slice none 0 0),.lit (.int .i64 0),.lit (.slice none 0 0),.lit (.slice none 0 0),.lit (.int .i64 0),.lit (.slice none 0 0),.lit (.slice none 0 0)]),(2,.row 102 1 (Z.map (eL 1 (eL 4 (r8))))),(3,.row 50 4 (a0.map M5)),(4,.row 48 5 (a1.map L2)),(5,.row 96 6 (a2.map I2)),(6,.row 3 1 (a3.map (eI .i64))),(7,.row 116 6 (a4.map C9)),(8,.row 3 1 (a6.map (eI .i64))),(9,.row 108 3 (a7.map F9)),(10,.row 3 1 (a9.map (eI .i64))),(11,.row 42 4 (aA.map M6)),(12,.box 37 [.row 2,.row 3,.row 4,.row 5,.row 6,.row 7,.lit (.int .i64 a5),.row 8,.row 9,.lit (.int .i64 a8),.row 10,.row 11])]⟩) H (fun _ h=>aw hE [] h) (fun _ _ _ _ _ _ _ _ _ _ _ _ _=>m5.l0.eq_2 ..) fun bK Z a0 a1 a2 a3 a4 a5 a6 a7 a8 a9 aA bL H bM aZ=>?_
     refine d8<|d8<|c9<|rn rfl ?_
     obtain ⟨d,b0,H⟩:=f6 H
     refine kC (cl (O8.ok b0) [12,2,3,4,5,6,7,8,9,10,11])<|d9<|c8 ?_
     obtain ⟨s,H⟩|⟨s,H⟩:=oi H
     ·refine iT s<|i9<|c8<|j4<|i9<|j6<|l6 ?_
      exact aw hE [] (aZ (Nat.le_refl _) H)
     refine iF (bF s)<|m6<|j5<|j5<|n7 rfl<|c8<|d8<|c9<|rn rfl ?_
     obtain ⟨e,H⟩:=i8 H
     obtain ⟨l,H⟩:=i8 H
     refine k0 (iR e l)<|k0 (qA 5 e l) ?_
     refine rn rfl ?_
     obtain ⟨a,b1,H⟩:=f6 H
     refine kC (cl ((U1.ok b1).frz (.tup [.agg [.lit (.int .i64 a.1),.lit (.int .i64 a.2.1),.sl .n 4 (a.2.2.1.map I1),.lit (.int .i64 a.2.2.2.1),.lit (.int .i64 a.2.2.2.2.1)],.lit (.bool a.2.2.2.2.2)])) []) ?_
     refine rn rfl<|k0 (iR e l)<|k2 (stE 5 (L2 (⟨a.1,a.2.1,a.2.2.1,a.2.2.2.1,a.2.2.2.2.1⟩ : D3)) ((d.2.2.2.1.set c.toNat (⟨a.1,a.2.1,a.2.2.1,a.2.2.2.1,a.2.2.2.2.1⟩ : D3)).map L2) (ab9 (z:=z48) e l) af4)<|ed<|c8<|d8<|d8<|c9 ?_
     refine rn rfl<|k0 (iR e (ls l))<|k0 (bV6 5 (L2 (⟨a.1,a.2.1,a.2.2.1,a.2.2.2.1,a.2.2.2.2.1⟩ : D3)) [.lit (.int .i64 a.1),.lit (.int .i64 a.2.1),.sl .n 4 (a.2.2.1.map I1),.lit (.int .i64 a.2.2.2.1),.lit (.int .i64 a.2.2.2.2.1)] (cf2 e (ls l))) ?_
     obtain ⟨t,b2,H⟩:=f6 H
     refine kC (cl (N6.ok b2) [13])<|k0 (lnR v7) ?_
     refine rn rfl<|d9<|c8<|j4 ?_
     refine lp6 (fun k=>m5.l1 k g i c d a t) (fun aB aC aD aE aF aG=>⟨[(4,.box 1 0),(5,.box 12 0),(6,.lit (.int .i64 c)),(25,.lit (.int .i64 (max 0 (min g 40)))),(26,.lit (.int .i64 i)),(29,.lit (.int .i64 c)),(54,.row 13),(55,.lit (.int .i64 (t.length : Int))),(56,.lit (.int .i64 aG))],[(1,.box 37 [.lit (.slice none 0 0),.lit (.slice none 0 0),.lit (.slice none 0 0),.lit (.slice none 0 0),.lit (.slice none 0 0),.lit (.slice none 0 0),.lit (.int .i64 0),.lit (.slice none 0 0),.lit (.slice none 0 0),.lit (.int .i64 0),.lit (.slice none 0 0),.lit (.slice none 0 0)]),(2,.row 102 1 (d.2.1.map (eL 1 (eL 4 (r8))))),(3,.row 50 4 (d.2.2.1.map M5)),(4,.row 48 5 ((d.2.2.2.1.set c.toNat (⟨a.1,a.2.1,a.2.2.1,a.2.2.2.1,a.2.2.2.2.1⟩ : D3)).map L2)),(5,.row 96 6 (aB.map I2)),(6,.row 3 1 (aC.map (eI .i64))),(7,.row 116 6 (aD.map C9)),(8,.row 3 1 (aF.map (eI .i64))),(9,.row 108 3 (d.2.2.2.2.2.2.2.2.2.1.map F9)),(10,.row 3 1 (d.2.2.2.2.2.2.2.2.2.2.2.1.map (eI .i64))),(11,.row 42 4 (d.2.2.2.2.2.2.2.2.2.2.2.2.map M6)),(12,.box 37 [.row 2,.row 3,.row 4,.row 5,.row 6,.row 7,.lit (.int .i64 aE),.row 8,.row 9,.lit (.int .i64 d.2.2.2.2.2.2.2.2.2.2.1),.row 10,.row 11]),(13,.row 88 7 (t.map e88))]⟩) H (fun _ h=>aw hE [] h) (fun _ _ _ _ _ _ _=>m5.l1.eq_2 ..) fun bN aB aC aD aE aF aG bO H bP b3=>?_
     refine d8<|c9<|rn rfl<|d9<|c8<|d8 ?_
     obtain ⟨m,H⟩|⟨m,H⟩:=oi H
     ·refine iT (decide_eq_true m)<|i9<|c8<|d8<|j4<|d8<|c9 ?_
      obtain ⟨aH,H⟩:=i8 H
      refine k0 (iR aH m)<|k0 (qA 7 aH m)<|k1 (al 14) ?_
      refine rn rfl<|d9<|c8<|c9<|rn rfl ?_
      obtain ⟨bQ,b4,H⟩:=f6 H
      refine kC (cl (F0.ok b4) [15,16,17,18]) ?_
      refine rn rfl<|d9<|j6<|c8<|c9<|rn rfl<|d9<|l6 ?_
      exact aw hE [(5,15),(6,16),(7,17),(8,18)] (b3 (Nat.le_refl _) H)
     refine iF (decide_eq_false m)<|m6<|j5<|j5<|n7 rfl<|c8<|d8<|c9<|rn rfl ?_
     obtain ⟨bR,b5,H⟩:=f6 H
     refine kC (cl (P6.ok b5) [19,20,21,22]) ?_
     refine rn rfl<|d9<|c8<|d8<|c9<|rn rfl ?_
     obtain ⟨bS,b6,H⟩:=f6 H
     refine kC (cl (aa1.ok b6) []) ?_
     refine rn rfl<|k1 (al 23) ?_
     refine rn rfl<|d9<|c8<|d8<|c9<|rn rfl<|d9<|c8 ?_
     obtain ⟨u,H⟩|⟨u,H⟩:=oi H
     ·refine iT u<|c9<|rn rfl ?_
      obtain ⟨n,H⟩:=i8 H
      refine k0 (iR e n)<|k0 (qA 5 e n) ?_
      refine rn rfl ?_
      obtain ⟨b,b7,H⟩:=f6 H
      refine kC (cl ((Z8.ok b7).frz (.agg [.lit (.int .i64 b.1),.lit (.int .i64 b.2.1),.sl .n 4 (b.2.2.1.map I1),.lit (.int .i64 b.2.2.2.1),.lit (.int .i64 b.2.2.2.2)])) [])<|k0 (iR e n)<|k2 (stE 5 (L2 (⟨b.1,b.2.1,b.2.2.1,b.2.2.2.1,b.2.2.2.2⟩ : D3)) (((d.2.2.2.1.set c.toNat (⟨a.1,a.2.1,a.2.2.1,a.2.2.2.1,a.2.2.2.2.1⟩ : D3)).set c.toNat (⟨b.1,b.2.1,b.2.2.1,b.2.2.2.1,b.2.2.2.2⟩ : D3)).map L2) (ab9 (z:=z48) e n) af4)<|ed<|j6<|c8<|c9 ?_
      refine rn rfl<|d9<|l6 ?_
      exact aw hE [(5,19),(6,20),(7,21),(8,22)] (Y (by omega) H)
     refine iF (bF u)<|i9<|j6<|c8<|c9<|rn rfl<|d9<|l6 ?_
     exact aw hE [(5,19),(6,20),(7,21),(8,22)] (Y (by omega) H)
    refine iF (decide_eq_false q)<|m6<|j5<|j5<|n7 rfl<|j6<|c8<|c9<|rn rfl<|d9<|l6 ?_
    exact aw hE [] (aX (by omega) H)
   refine iF (decide_eq_false p)<|m6<|j5<|j5<|n7 rfl<|c8<|d8<|c9<|k1 (u7 24 108 3 [.bool false,.string .empty,.bool false] (([] : List C7).map F9)) ?_
   refine rn rfl<|d9<|c8<|d8<|c9<|rn rfl<|d9<|c8<|f7 ?_
   obtain rfl:=si H
   exact rt hE [(0,2),(1,3),(2,4),(3,5),(4,6),(5,7),(6,8),(7,24),(8,10),(9,11)] (hr:=(D5 12 .nil))
  refine iT (nT (bF o))<|d8<|c9<|rn rfl<|d9<|c8<|f7<|f8 ?_
  obtain rfl:=si H
  exact rt hE [(0,2),(1,3),(2,4),(3,5),(4,6),(5,7),(6,8),(7,9),(8,10),(9,11)] (hr:=(D5 12 .nil))
 iterate 3 refine kx (hF (nT (bF j))) ?_
 refine k0 (o8 (nT (bF j)))<|d9<|c8<|iT rfl<|d8<|c9 ?_
 refine rn rfl<|d9<|c8<|f7<|f8 ?_
 obtain rfl:=si H
 exact rt hE [(0,2),(1,3),(2,4),(3,5),(4,6),(5,7),(6,8),(7,9),(8,10),(9,11)] (hr:=(D5 12 .nil))
def J3.l0 : Nat→Y40→(List H7)→(List D3)→(List D1)→(List Int)→(List A2)→Int→(List Int)→(List C7)→Int→(List Int)→(List E9)→Int→(List E9)→Int→Option ((List E9))
 | 0,_,_,_,_,_,_,_,_,_,_,_,_,_,_,_=>none
 | e + 1,g,h,i,j,k,l,m,n,o,p,q,b,d,c,a=>if a < (b.length : Int) then if 0≤a then if ((Q9 b a).f0) = d then (if c.length + ([(⟨(Q9 b a).f0,(Q9 b a).f1,(Q9 b a).f2,(Q9 b a).f3⟩ : E9)] : List E9).length < 4398046511104 then J3.l0 e g h i j k l m n o p q b d (c ++ ([(⟨(Q9 b a).f0,(Q9 b a).f1,(Q9 b a).f2,(Q9 b a).f3⟩ : E9)] : List E9)) (wrap64 (a + 1)) else none) else J3.l0 e g h i j k l m n o p q b d c (wrap64 (a + 1)) else none else some c
def J3.f (k : Nat) (a : Y42) (b : List H7) (c : List D3) (d : List D1) (e : List Int) (g : List A2) (h : Int) (i : List Int) (j : List C7) (l : Int) (m : List Int) (n : List E9) (o : Int) : Option ((List E9)):=J3.l0 k a b c d e g h i j l m n o ([] : List E9) 0
theorem J3.ok (H : J3.f k d e g i j l m n o p q a s = some r) : j7 Tryz.prog 17 [] [.agg [.sl .o 1 (d.map (eL 1 (eL 4 (r8)))),.sl .o 4 (e.map M5),.sl .o 5 (g.map L2),.sl .o 6 (i.map I2),.sl .o 1 (j.map (eI .i64)),.sl .o 6 (l.map C9),.lit (.int .i64 m),.sl .o 1 (n.map (eI .i64)),.sl .o 3 (o.map F9),.lit (.int .i64 p),.sl .o 1 (q.map (eI .i64)),.sl .o 4 (a.map M6)],.lit (.int .i64 s)] [(0,.row 42 4 (r.map M6))] (.row 0):=by
 refine u3 32 Tryz.func17 fun E hE=>?_
 rw [J3.f] at H
 refine d8<|c9<|k1 (K2 0) ?_
 refine rn rfl<|d9<|c8<|d8<|c9<|k1 (u7 1 42 4 [.int .i64 0,.int .i64 0,.int .i64 0,.bool false] (([] : List E9).map M6)) ?_
 refine rn rfl<|d9<|c8<|d8<|d8<|c9<|rn rfl<|d9<|c8<|j4 ?_
 refine V7 (fun k=>J3.l0 k d e g i j l m n o p q a s) (fun t b=>⟨[(1,.lit (.int .i64 s)),(2,.box 0 0),(5,.row 1),(6,.lit (.int .i64 b))],[(0,.box 37 [.sl .o 1 (d.map (eL 1 (eL 4 (r8)))),.sl .o 4 (e.map M5),.sl .o 5 (g.map L2),.sl .o 6 (i.map I2),.sl .o 1 (j.map (eI .i64)),.sl .o 6 (l.map C9),.lit (.int .i64 m),.sl .o 1 (n.map (eI .i64)),.sl .o 3 (o.map F9),.lit (.int .i64 p),.sl .o 1 (q.map (eI .i64)),.sl .o 4 (a.map M6)]),(1,.row 42 4 (t.map M6))]⟩) H (fun _ h=>aw hE [] h) (fun _ _ _=>J3.l0.eq_2 ..) fun y t b z H B v=>?_
 refine d8<|d8<|c9<|rn rfl<|k0 (G3 v7) ?_
 refine rn rfl<|d9<|c8 ?_
 obtain ⟨c,H⟩|⟨c,H⟩:=oi H
 ·refine iT (decide_eq_true c)<|i9<|c8<|d8<|j4<|d8<|c9<|rn rfl ?_
  obtain ⟨w,H⟩:=i8 H
  refine k0 (iS w c) ?_
  refine rn rfl<|d9<|c8 ?_
  obtain ⟨u,H⟩|⟨u,H⟩:=oi H
  ·refine iT (eT u)<|c9<|rn rfl<|k0 (iS w c) ?_
   refine rn rfl<|k1 (u7 2 42 4 [.int .i64 0,.int .i64 0,.int .i64 0,.bool false] (([(⟨(Q9 a b).f0,(Q9 a b).f1,(Q9 a b).f2,(Q9 a b).f3⟩ : E9)] : List E9).map M6)) ?_
   obtain ⟨x,H⟩:=i8 H
   refine k3 (D7 3 42 4 32 [.int .i64 0,.int .i64 0,.int .i64 0,.bool false] ((t ++ ([(⟨(Q9 a b).f0,(Q9 a b).f1,(Q9 a b).f2,(Q9 a b).f3⟩ : E9)] : List E9)).map M6) (.row rfl) (D8 x rfl) z7) ?_
   refine rn rfl<|d9<|j6<|c8<|c9<|rn rfl<|d9<|l6 ?_
   exact aw hE [(1,3)] (v (Nat.le_refl _) H)
  refine iF (eF u)<|i9<|j6<|c8<|c9<|rn rfl<|d9<|l6 ?_
  exact aw hE [] (v (Nat.le_refl _) H)
 refine iF (decide_eq_false c)<|m6<|j5<|j5<|n7 rfl<|c8<|d8<|c9<|rn rfl<|d9<|c8<|f7 ?_
 obtain rfl:=si H
 exact rt hE [(0,1)]
def E6.l0 : Nat→(List D1)→(List Int)→(List A2)→Int→(List Int)→Int→(List u5)→Int→Y48
 | 0,_,_,_,_,_,_,_,_=>none
 | e + 1,b,g,h,i,j,d,c,a=>if a < (b.length : Int) then if 0≤a then if ((U6 b a).f0) = d then (if c.length + ([(⟨(U6 b a).f2.f0,(U6 b a).f2.f1,(U6 b a).f2.f2,(U6 b a).f2.f3⟩ : u5)] : List u5).length < 4398046511104 then E6.l0 e b g h i j d (c ++ ([(⟨(U6 b a).f2.f0,(U6 b a).f2.f1,(U6 b a).f2.f2,(U6 b a).f2.f3⟩ : u5)] : List u5)) (wrap64 (a + 1)) else none) else E6.l0 e b g h i j d c (wrap64 (a + 1)) else none else some c
def E6.f (k : Nat) (a : List D1) (b : List Int) (c : List A2) (d : Int) (e : List Int) (g : Int) : Y48:=E6.l0 k a b c d e g ([] : List u5) 0
theorem E6.ok (H : E6.f k a d e g i j = some r) : j7 Tryz.prog 11 [] [.agg [.sl .o 6 (a.map I2),.sl .o 1 (d.map (eI .i64)),.sl .o 6 (e.map C9),.lit (.int .i64 g),.sl .o 1 (i.map (eI .i64))],.lit (.int .i64 j)] [(0,.row 46 4 (r.map I1))] (.row 0):=by
 refine u3 33 Tryz.func11 fun E hE=>?_
 rw [E6.f] at H
 refine d8<|c9<|k1 (K2 0) ?_
 refine rn rfl<|d9<|c8<|d8<|c9<|k1 (u7 1 46 4 [.int .i64 0,.int .i64 0,.int .i64 0,.int .i64 0] (([] : List u5).map I1)) ?_
 refine rn rfl<|d9<|c8<|d8<|d8<|c9<|rn rfl<|d9<|c8<|j4 ?_
 refine V7 (fun k=>E6.l0 k a d e g i j) (fun l b=>⟨[(1,.lit (.int .i64 j)),(2,.box 0 0),(5,.row 1),(6,.lit (.int .i64 b))],[(0,.box 33 [.sl .o 6 (a.map I2),.sl .o 1 (d.map (eI .i64)),.sl .o 6 (e.map C9),.lit (.int .i64 g),.sl .o 1 (i.map (eI .i64))]),(1,.row 46 4 (l.map I1))]⟩) H (fun _ h=>aw hE [] h) (fun _ _ _=>E6.l0.eq_2 ..) fun q l b s H t n=>?_
 refine d8<|d8<|c9<|rn rfl<|k0 (G3 v7) ?_
 refine rn rfl<|d9<|c8 ?_
 obtain ⟨c,H⟩|⟨c,H⟩:=oi H
 ·refine iT (decide_eq_true c)<|i9<|c8<|d8<|j4<|d8<|c9<|rn rfl ?_
  obtain ⟨o,H⟩:=i8 H
  refine k0 (iS o c) ?_
  refine rn rfl<|d9<|c8 ?_
  obtain ⟨m,H⟩|⟨m,H⟩:=oi H
  ·refine iT (eT m)<|c9<|rn rfl<|k0 (iS o c) ?_
   refine rn rfl<|k1 (u7 2 46 4 [.int .i64 0,.int .i64 0,.int .i64 0,.int .i64 0] (([(⟨(U6 a b).f2.f0,(U6 a b).f2.f1,(U6 a b).f2.f2,(U6 a b).f2.f3⟩ : u5)] : List u5).map I1)) ?_
   obtain ⟨p,H⟩:=i8 H
   refine k3 (D7 3 46 4 32 [.int .i64 0,.int .i64 0,.int .i64 0,.int .i64 0] ((l ++ ([(⟨(U6 a b).f2.f0,(U6 a b).f2.f1,(U6 a b).f2.f2,(U6 a b).f2.f3⟩ : u5)] : List u5)).map I1) (.row rfl) (D8 p rfl) z7) ?_
   refine rn rfl<|d9<|j6<|c8<|c9<|rn rfl<|d9<|l6 ?_
   exact aw hE [(1,3)] (n (Nat.le_refl _) H)
  refine iF (eF m)<|i9<|j6<|c8<|c9<|rn rfl<|d9<|l6 ?_
  exact aw hE [] (n (Nat.le_refl _) H)
 refine iF (decide_eq_false c)<|m6<|j5<|j5<|n7 rfl<|c8<|d8<|c9<|rn rfl<|d9<|c8<|f7 ?_
 obtain rfl:=si H
 exact rt hE [(0,1)]
mutual
def r6.l0 : Nat→(Y40×(List H7)×(List D3)×(List D1)×(List Int)×(List A2)×Int×(List Int)×(List C7)×Int×(List Int)×(List E9)×(List Int)×Bool)→(Y40×(List H7)×(List D3)×(List D1)×(List Int)×(List A2)×Int×(List Int)×(List C7)×Int×(List Int)×(List E9))→Int→((List E9))→Int→Int→P0
 | 0,_,_,_,_,_,_=>none
 | i + 1,a,b,c,d,e,g=>if g < (d.length : Int) then if 0≤g then if ((Q9 d g).f3) = true then r6.l0 i a b c d e (wrap64 (g + 1)) else r6.l0 i a b c d (wrap64 (e + 1)) (wrap64 (g + 1)) else none else (E6.f i b.2.2.2.1 b.2.2.2.2.1 b.2.2.2.2.2.1 b.2.2.2.2.2.2.1 b.2.2.2.2.2.2.2.1 c).bind fun h=>r6.l1 i a b c e h 0 0
def r6.l1 : Nat→(Y40×(List H7)×(List D3)×(List D1)×(List Int)×(List A2)×Int×(List Int)×(List C7)×Int×(List Int)×(List E9)×(List Int)×Bool)→(Y40×(List H7)×(List D3)×(List D1)×(List Int)×(List A2)×Int×(List Int)×(List C7)×Int×(List Int)×(List E9))→Int→Int→((List u5))→Int→Int→P0
 | 0,_,_,_,_,_,_,_=>none
 | k + 1,a,b,c,e,h,l,j=>if j < (h.length : Int) then if 0≤j then r6.l1 k a b c e h (wrap64 (l + ((H2 h j).f3))) (wrap64 (j + 1)) else none else if l = e then r6.l2 k a b (wrap64 (c + 1)) else some false
def r6.l2 : Nat→(Y40×(List H7)×(List D3)×(List D1)×(List Int)×(List A2)×Int×(List Int)×(List C7)×Int×(List Int)×(List E9)×(List Int)×Bool)→(Y40×(List H7)×(List D3)×(List D1)×(List Int)×(List A2)×Int×(List Int)×(List C7)×Int×(List Int)×(List E9))→Int→P0
 | 0,_,_,_=>none
 | m + 1,a,b,c=>if c < 3 then (J3.f m a.1 a.2.1 a.2.2.1 a.2.2.2.1 a.2.2.2.2.1 a.2.2.2.2.2.1 a.2.2.2.2.2.2.1 a.2.2.2.2.2.2.2.1 a.2.2.2.2.2.2.2.2.1 a.2.2.2.2.2.2.2.2.2.1 a.2.2.2.2.2.2.2.2.2.2.1 a.2.2.2.2.2.2.2.2.2.2.2.1 c).bind fun d=>r6.l0 m a b c d 0 0 else if a.2.2.2.2.2.2.2.2.2.2.2.2.2 = true then some ((b.2.2.2.2.2.2.2.2.1.length : Int) == 0) else some false
end
def r6.f (k : Nat) (b : List Int) : P0:=(ax3.f b).bind fun c=>if c = true then some true else (U5.f k b).bind fun d=>(B6.f k d).bind fun a=>(m5.f k a.1 a.2.1 a.2.2.1 a.2.2.2.1 a.2.2.2.2.1 a.2.2.2.2.2.1 a.2.2.2.2.2.2.1 a.2.2.2.2.2.2.2.1 a.2.2.2.2.2.2.2.2.1 a.2.2.2.2.2.2.2.2.2.1 a.2.2.2.2.2.2.2.2.2.2.1 a.2.2.2.2.2.2.2.2.2.2.2.1 8).bind fun e=>r6.l2 k a e 0
theorem r6.ok (H : r6.f k x = some r) : j7 Tryz.prog 4 [] [.sl .o 1 (x.map (eI .u8))] [] (.lit (.bool r)):=by
 refine u3 75 Tryz.func4 fun E hE=>?_
 rw [r6.f] at H
 refine d8<|c9<|rn rfl<|d9<|c8<|d8<|d8<|c9<|rn rfl ?_
 obtain ⟨J,y,H⟩:=f6 H
 refine kC (cl (ax3.ok y) [])<|d9<|c8 ?_
 obtain ⟨j,H⟩|⟨j,H⟩:=oi H
 ·refine iT j<|d8<|c9<|rn rfl<|d9<|c8<|f7<|f8 ?_
  obtain rfl:=si H
  exact rt hE []
 refine iF (bF j)<|i9<|c8<|d8<|c9<|rn rfl ?_
 obtain ⟨K,z,H⟩:=f6 H
 refine kC (cl (U5.ok z) [0]) ?_
 refine rn rfl<|d9<|c8<|d8<|c9<|rn rfl ?_
 obtain ⟨a,B,H⟩:=f6 H
 refine kC (cl (B6.ok B) [1,2,3,4,5,6,7,8,9,10,11]) ?_
 refine rn rfl<|k1 (al 12) ?_
 refine rn rfl<|d9<|c8<|d8<|c9<|rn rfl ?_
 obtain ⟨b,C,H⟩:=f6 H
 refine kC (cl (m5.ok C) [13,14,15,16,17,18,19,20,21,22])<|k1 (al 23) ?_
 refine rn rfl<|d9<|c8<|d8<|d8<|c9<|rn rfl<|d9<|c8<|j4 ?_
 refine lp1 (fun k=>r6.l2 k a b) (fun d=>⟨[(4,.box 12 0),(6,.lit (.bool a.2.2.2.2.2.2.2.2.2.2.2.2.2)),(7,.box 23 0),(8,.lit (.int .i64 d))],[(1,.row 102 1 (a.1.map (eL 1 (eL 4 (r8))))),(2,.row 50 4 (a.2.1.map M5)),(3,.row 48 5 (a.2.2.1.map L2)),(4,.row 96 6 (a.2.2.2.1.map I2)),(5,.row 3 1 (a.2.2.2.2.1.map (eI .i64))),(6,.row 116 6 (a.2.2.2.2.2.1.map C9)),(7,.row 3 1 (a.2.2.2.2.2.2.2.1.map (eI .i64))),(8,.row 108 3 (a.2.2.2.2.2.2.2.2.1.map F9)),(9,.row 3 1 (a.2.2.2.2.2.2.2.2.2.2.1.map (eI .i64))),(10,.row 42 4 (a.2.2.2.2.2.2.2.2.2.2.2.1.map M6)),(12,.box 37 [.row 1,.row 2,.row 3,.row 4,.row 5,.row 6,.lit (.int .i64 a.2.2.2.2.2.2.1),.row 7,.row 8,.lit (.int .i64 a.2.2.2.2.2.2.2.2.2.1),.row 9,.row 10]),(13,.row 102 1 (b.1.map (eL 1 (eL 4 (r8))))),(14,.row 50 4 (b.2.1.map M5)),(15,.row 48 5 (b.2.2.1.map L2)),(16,.row 96 6 (b.2.2.2.1.map I2)),(17,.row 3 1 (b.2.2.2.2.1.map (eI .i64))),(18,.row 116 6 (b.2.2.2.2.2.1.map C9)),(19,.row 3 1 (b.2.2.2.2.2.2.2.1.map (eI .i64))),(20,.row 108 3 (b.2.2.2.2.2.2.2.2.1.map F9)),(21,.row 3 1 (b.2.2.2.2.2.2.2.2.2.2.1.map (eI .i64))),(22,.row 42 4 (b.2.2.2.2.2.2.2.2.2.2.2.map M6)),(23,.box 37 [.row 13,.row 14,.row 15,.row 16,.row 17,.row 18,.lit (.int .i64 b.2.2.2.2.2.2.1),.row 19,.row 20,.lit (.int .i64 b.2.2.2.2.2.2.2.2.2.1),.row 21,.row 22])]⟩) H (fun _ h=>aw hE [] h) (fun _ _=>r6.l2.eq_2 ..) fun L d M H N D=>?_
 refine d8<|d8<|c9<|rn rfl<|d9<|c8 ?_
 obtain ⟨l,H⟩|⟨l,H⟩:=oi H
 ·refine iT (decide_eq_true l)<|i9<|c8<|d8<|j4<|d8<|c9<|rn rfl ?_
  obtain ⟨o,F,H⟩:=f6 H
  refine kC (cl (J3.ok F) [24]) ?_
  refine rn rfl<|d9<|c8<|d8<|c9<|rn rfl<|d9<|c8<|d8<|d8<|c9<|rn rfl<|d9<|c8<|j4 ?_
  refine V7 (fun k=>r6.l0 k a b d o) (fun i p=>⟨[(4,.box 12 0),(6,.lit (.bool a.2.2.2.2.2.2.2.2.2.2.2.2.2)),(7,.box 23 0),(8,.lit (.int .i64 d)),(9,.row 24),(10,.lit (.int .i64 i)),(11,.lit (.int .i64 p))],[(1,.row 102 1 (a.1.map (eL 1 (eL 4 (r8))))),(2,.row 50 4 (a.2.1.map M5)),(3,.row 48 5 (a.2.2.1.map L2)),(4,.row 96 6 (a.2.2.2.1.map I2)),(5,.row 3 1 (a.2.2.2.2.1.map (eI .i64))),(6,.row 116 6 (a.2.2.2.2.2.1.map C9)),(7,.row 3 1 (a.2.2.2.2.2.2.2.1.map (eI .i64))),(8,.row 108 3 (a.2.2.2.2.2.2.2.2.1.map F9)),(9,.row 3 1 (a.2.2.2.2.2.2.2.2.2.2.1.map (eI .i64))),(10,.row 42 4 (a.2.2.2.2.2.2.2.2.2.2.2.1.map M6)),(12,.box 37 [.row 1,.row 2,.row 3,.row 4,.row 5,.row 6,.lit (.int .i64 a.2.2.2.2.2.2.1),.row 7,.row 8,.lit (.int .i64 a.2.2.2.2.2.2.2.2.2.1),.row 9,.row 10]),(13,.row 102 1 (b.1.map (eL 1 (eL 4 (r8))))),(14,.row 50 4 (b.2.1.map M5)),(15,.row 48 5 (b.2.2.1.map L2)),(16,.row 96 6 (b.2.2.2.1.map I2)),(17,.row 3 1 (b.2.2.2.2.1.map (eI .i64))),(18,.row 116 6 (b.2.2.2.2.2.1.map C9)),(19,.row 3 1 (b.2.2.2.2.2.2.2.1.map (eI .i64))),(20,.row 108 3 (b.2.2.2.2.2.2.2.2.1.map F9)),(21,.row 3 1 (b.2.2.2.2.2.2.2.2.2.2.1.map (eI .i64))),(22,.row 42 4 (b.2.2.2.2.2.2.2.2.2.2.2.map M6)),(23,.box 37 [.row 13,.row 14,.row 15,.row 16,.row 17,.row 18,.lit (.int .i64 b.2.2.2.2.2.2.1),.row 19,.row 20,.lit (.int .i64 b.2.2.2.2.2.2.2.2.2.1),.row 21,.row 22]),(24,.row 42 4 (o.map M6))]⟩) H (fun _ h=>aw hE [] h) (fun _ _ _=>r6.l0.eq_2 ..) fun O i p P H Q q=>?_
  refine d8<|d8<|c9<|rn rfl<|k0 (lnR v7) ?_
  refine rn rfl<|d9<|c8 ?_
  obtain ⟨e,H⟩|⟨e,H⟩:=oi H
  ·refine iT (decide_eq_true e)<|i9<|c8<|d8<|j4<|d8<|c9<|rn rfl ?_
   obtain ⟨s,H⟩:=i8 H
   refine k0 (iR s e) ?_
   refine rn rfl<|k0 (qL s e) ?_
   refine rn rfl<|d9<|c8 ?_
   obtain ⟨m,H⟩|⟨m,H⟩:=oi H
   ·refine iF (nF m)<|i9<|j6<|c8<|c9<|rn rfl<|d9<|l6 ?_
    exact aw hE [] (q (Nat.le_refl _) H)
   refine iT (nT (bF m))<|c9<|rn rfl<|d9<|j6<|c8<|c9<|rn rfl<|d9<|l6 ?_
   exact aw hE [] (q (Nat.le_refl _) H)
  refine iF (decide_eq_false e)<|m6<|j5<|j5<|n7 rfl<|c8<|d8<|c9<|rn rfl ?_
  obtain ⟨t,G,H⟩:=f6 H
  refine kC (cl (E6.ok G) [25]) ?_
  refine rn rfl<|d9<|c8<|d8<|c9<|rn rfl<|d9<|c8<|d8<|d8<|c9<|rn rfl<|d9<|c8<|j4 ?_
  refine V7 (fun k=>r6.l1 k a b d i t) (fun u v=>⟨[(4,.box 12 0),(6,.lit (.bool a.2.2.2.2.2.2.2.2.2.2.2.2.2)),(7,.box 23 0),(8,.lit (.int .i64 d)),(10,.lit (.int .i64 i)),(12,.row 25),(13,.lit (.int .i64 u)),(14,.lit (.int .i64 v))],[(1,.row 102 1 (a.1.map (eL 1 (eL 4 (r8))))),(2,.row 50 4 (a.2.1.map M5)),(3,.row 48 5 (a.2.2.1.map L2)),(4,.row 96 6 (a.2.2.2.1.map I2)),(5,.row 3 1 (a.2.2.2.2.1.map (eI .i64))),(6,.row 116 6 (a.2.2.2.2.2.1.map C9)),(7,.row 3 1 (a.2.2.2.2.2.2.2.1.map (eI .i64))),(8,.row 108 3 (a.2.2.2.2.2.2.2.2.1.map F9)),(9,.row 3 1 (a.2.2.2.2.2.2.2.2.2.2.1.map (eI .i64))),(10,.row 42 4 (a.2.2.2.2.2.2.2.2.2.2.2.1.map M6)),(12,.box 37 [.row 1,.row 2,.row 3,.row 4,.row 5,.row 6,.lit (.int .i64 a.2.2.2.2.2.2.1),.row 7,.row 8,.lit (.int .i64 a.2.2.2.2.2.2.2.2.2.1),.row 9,.row 10]),(13,.row 102 1 (b.1.map (eL 1 (eL 4 (r8))))),(14,.row 50 4 (b.2.1.map M5)),(15,.row 48 5 (b.2.2.1.map L2)),(16,.row 96 6 (b.2.2.2.1.map I2)),(17,.row 3 1 (b.2.2.2.2.1.map (eI .i64))),(18,.row 116 6 (b.2.2.2.2.2.1.map C9)),(19,.row 3 1 (b.2.2.2.2.2.2.2.1.map (eI .i64))),(20,.row 108 3 (b.2.2.2.2.2.2.2.2.1.map F9)),(21,.row 3 1 (b.2.2.2.2.2.2.2.2.2.2.1.map (eI .i64))),(22,.row 42 4 (b.2.2.2.2.2.2.2.2.2.2.2.map M6)),(23,.box 37 [.row 13,.row 14,.row 15,.row 16,.row 17,.row 18,.lit (.int .i64 b.2.2.2.2.2.2.1),.row 19,.row 20,.lit (.int .i64 b.2.2.2.2.2.2.2.2.2.1),.row 21,.row 22]),(25,.row 46 4 (t.map I1))]⟩) H (fun _ h=>aw hE [] h) (fun _ _ _=>r6.l1.eq_2 ..) fun R u v T H U I=>?_
  refine d8<|d8<|c9<|rn rfl<|k0 (lnR v7) ?_
  refine rn rfl<|d9<|c8 ?_
  obtain ⟨g,H⟩|⟨g,H⟩:=oi H
  ·refine iT (decide_eq_true g)<|i9<|c8<|d8<|j4<|c9<|rn rfl ?_
   obtain ⟨w,H⟩:=i8 H
   refine k0 (iR w g) ?_
   refine rn rfl<|k0 (qL w g) ?_
   refine rn rfl<|d9<|j6<|c8<|c9<|rn rfl<|d9<|l6 ?_
   exact aw hE [] (I (Nat.le_refl _) H)
  refine iF (decide_eq_false g)<|m6<|j5<|j5<|n7 rfl<|c8<|d8<|c9<|rn rfl<|d9<|c8 ?_
  obtain ⟨n,H⟩|⟨n,H⟩:=oi H
  ·refine iF (eM n)<|i9<|j6<|c8<|c9<|rn rfl<|d9<|l6 ?_
   exact aw hE [] (D (by omega) H)
  refine iT (eN n)<|d8<|c9<|rn rfl<|d9<|c8<|f7<|l7<|f8<|f8<|l7<|f8 ?_
  obtain rfl:=si H
  exact rt hE []
 refine iF (decide_eq_false l)<|m6<|j5<|j5<|n7 rfl<|c8<|d8<|c9<|rn rfl ?_
 obtain ⟨c,H⟩|⟨c,H⟩:=oi H
 ·refine kv (g1 c) (y8 8 8)<|kv (g1 c) B5<|kv (g1 c) (lnR v7)<|kv (g1 c) eql ?_
  refine k0 (o8 c) ?_
  refine rn rfl<|d9<|c8<|f7 ?_
  obtain rfl:=si H
  exact rt hE []
 iterate 4 refine kx (hT (bF c)) ?_
 refine k0 (n8 (bF c)) ?_
 refine rn rfl<|d9<|c8<|f7 ?_
 obtain rfl:=si H
 exact rt hE []
end Go.Proofs.YtahmbcgolnplgaaGreat.PFnNoHoles
