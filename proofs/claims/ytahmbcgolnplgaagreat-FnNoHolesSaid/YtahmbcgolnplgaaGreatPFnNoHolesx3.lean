import Derived.Test.YtahmbcgolnplgaaGreatPFnNoHolesx2
set_option linter.unusedVariables false
set_option linter.unusedSimpArgs false
set_option autoImplicit true
set_option relaxedAutoImplicit true
set_option maxRecDepth 100000
set_option maxHeartbeats 4000000
namespace Go.Proofs.YtahmbcgolnplgaaGreat.PFnNoHoles
open Go Go.RowKit Go.Proofs.YtahmbcgolnplgaaGreatA
def G4.l0 : Nat→Y51→Int→P0
 | 0,_,_=>none
 | c + 1,a,b=>if b < (a.length : Int) then if 0≤b then (u9.f c (M0 ([] : List f9) a b)).bind fun d=>if d = true then G4.l0 c a (wrap64 (b + 1)) else some false else none else some (decide ((a.length : Int)≤3))
def G4.f (k : Nat) (a : Y53) : P0:=G4.l0 k a 0
theorem G4.ok (H : G4.f k a = some r) : j7 Tryz.prog 202 [] [.sl .o 1 (a.map (eL 4 (r8)))] [] (.lit (.bool r)):=by
 refine u3 18 Tryz.func202 fun E hE=>?_
 rw [G4.f] at H
 refine d8<|c9<|rn rfl<|d9<|c8<|d8<|d8<|c9<|rn rfl<|k0 (G3 v7) ?_
 refine rn rfl<|d9<|c8<|j4 ?_
 refine lp1 (fun k=>G4.l0 k a) (fun d=>⟨[(0,.sl .o 1 (a.map (eL 4 (r8)))),(5,.sl .o 1 (a.map (eL 4 (r8)))),(6,.lit (.int .i64 (a.length : Int))),(7,.lit (.int .i64 d))],[]⟩) H (fun _ h=>aw hE [] h) (fun _ _=>G4.l0.eq_2 ..) fun j d l H m e=>?_
 refine d8<|c9<|rn rfl<|d9<|c8<|d8 ?_
 obtain ⟨b,H⟩|⟨b,H⟩:=oi H
 ·refine iT (decide_eq_true b)<|i9<|c8<|d8<|j4<|d8<|c9 ?_
  obtain ⟨g,H⟩:=i8 H
  refine k0 (iS g b) ?_
  refine rn rfl<|d9<|c8<|d8<|c9<|rn rfl ?_
  obtain ⟨n,i,H⟩:=f6 H
  refine kC (cl (u9.ok i) []) ?_
  refine rn rfl<|d9<|c8 ?_
  obtain ⟨c,H⟩|⟨c,H⟩:=oi H
  ·refine iF (nF c)<|i9<|j6<|c8<|c9<|rn rfl<|d9<|l6 ?_
   exact aw hE [] (e (Nat.le_refl _) H)
  refine iT (nT (bF c))<|d8<|c9<|rn rfl<|d9<|c8<|f7<|l7<|f8<|f8<|l7<|f8 ?_
  obtain rfl:=si H
  exact rt hE []
 refine iF (decide_eq_false b)<|m6<|j5<|j5<|n7 rfl<|c8<|d8<|c9<|rn rfl<|k0 (G3 v7) ?_
 refine rn rfl<|d9<|c8<|f7 ?_
 obtain rfl:=si H
 exact rt hE []
def E8.f (a : Int) (b : Int) : Y55:=(j8.f a 0 5).bind fun c=>(if c = true then ((j8.f b 0 65535).bind fun d=>if d = true then some (wrap64 ((wrap64 (65536 * a)) + b)) else some 0) else some 0)
theorem E8.ok (H : E8.f c d = some r) : j7 Tryz.prog 203 [] [.lit (.int .i64 c),.lit (.int .i64 d)] [] (.lit (.int .i64 r)):=by
 refine u3 17 Tryz.func203 fun E hE=>?_
 rw [E8.f] at H
 refine d8<|c9<|rn rfl<|d9<|c8<|d8<|d8<|c9<|rn rfl ?_
 obtain ⟨h,e,H⟩:=f6 H
 refine kC (cl (j8.ok e) []) ?_
 refine rn rfl ?_
 obtain ⟨a,H⟩|⟨a,H⟩:=oi H
 ·refine kv (g1 (nF a)) mv ?_
  obtain ⟨i,g,H⟩:=f6 H
  refine N5 (g1 (nF a)) (cl (j8.ok g) [])<|kv (g1 (nF a)) V4 ?_
  refine k0 (n8 (nF a))<|d9<|c8 ?_
  obtain ⟨b,H⟩|⟨b,H⟩:=oi H
  ·refine iF (nF b)<|i9<|c8<|d8<|c9<|rn rfl<|d9<|c8<|f7 ?_
   obtain rfl:=si H
   exact rt hE []
  refine iT (nT (bF b))<|d8<|c9<|rn rfl<|d9<|c8<|f7<|f8 ?_
  obtain rfl:=si H
  exact rt hE []
 iterate 3 refine kx (hF (nT (bF a))) ?_
 refine k0 (o8 (nT (bF a)))<|d9<|c8<|iT rfl<|d8<|c9 ?_
 refine rn rfl<|d9<|c8<|f7<|f8 ?_
 obtain rfl:=si H
 exact rt hE []
def aa9.f (k : Nat) (c : Int) (d : Int) (b : List r7) (a : Int) : Option (Int×Bool):=(E5.f k c d b).bind fun e=>(if e = true then ((j8.f a 0 7).bind fun g=>if g = true then if a = 0 then some (d,true) else if a = 1 then some (c,true) else if (a.tmod 2) = 0 then (if 0≤(wrap64 ((wrap64 (a.tdiv 2)) - 1)) then (if (wrap64 ((wrap64 (a.tdiv 2)) - 1)) < (b.length : Int) then some ((ac1 b (wrap64 ((wrap64 (a.tdiv 2)) - 1))).f1,true) else none) else none) else if 0≤(wrap64 ((wrap64 (a.tdiv 2)) - 1)) then (if (wrap64 ((wrap64 (a.tdiv 2)) - 1)) < (b.length : Int) then some ((ac1 b (wrap64 ((wrap64 (a.tdiv 2)) - 1))).f0,true) else none) else none else some (0,false)) else some (0,false))
theorem aa9.ok (H : aa9.f k g h i j = some r) : j7 Tryz.prog 252 [] [.agg [.lit (.int .i64 g),.lit (.int .i64 h),.sl .o 2 (i.map S2)],.lit (.int .i64 j)] [] (.tup [.lit (.int .i64 r.1),.lit (.bool r.2)]):=by
 refine u3 44 Tryz.func252 fun E hE=>?_
 rw [aa9.f] at H
 refine d8<|c9<|k1 (K2 0) ?_
 refine rn rfl<|d9<|c8<|d8<|d8<|c9<|rn rfl ?_
 obtain ⟨s,l,H⟩:=f6 H
 refine kC (cl (E5.ok l) []) ?_
 refine rn rfl ?_
 obtain ⟨a,H⟩|⟨a,H⟩:=oi H
 ·refine kv (g1 (nF a)) mv ?_
  obtain ⟨t,m,H⟩:=f6 H
  refine N5 (g1 (nF a)) (cl (j8.ok m) [])<|kv (g1 (nF a)) V4 ?_
  refine k0 (n8 (nF a))<|d9<|c8 ?_
  obtain ⟨b,H⟩|⟨b,H⟩:=oi H
  ·refine iF (nF b)<|i9<|c8<|d8<|j4<|d8<|c9<|rn rfl<|d9<|c8 ?_
   obtain ⟨c,H⟩|⟨c,H⟩:=oi H
   ·refine iT (eT c)<|d8<|c9<|rn rfl<|d9<|c8<|f7<|l7<|f8 ?_
    obtain rfl:=si H
    exact rt hE []
   refine iF (eF c)<|d8<|c9<|rn rfl<|d9<|c8 ?_
   obtain ⟨d,H⟩|⟨d,H⟩:=oi H
   ·refine iT (eT d)<|d8<|c9<|rn rfl<|d9<|c8<|f7<|l7<|f8 ?_
    obtain rfl:=si H
    exact rt hE []
   refine iF (eF d)<|d8<|c9<|rn rfl<|k0 (rem (by decide : (2 : Int)≠0)) ?_
   refine rn rfl<|d9<|c8 ?_
   obtain ⟨e,H⟩|⟨e,H⟩:=oi H
   ·refine iT (eT e)<|d8<|c9<|rn rfl<|k0 (aE2 (by decide : (2 : Int)≠0)) ?_
    refine rn rfl ?_
    obtain ⟨n,H⟩:=i8 H
    obtain ⟨o,H⟩:=i8 H
    refine k0 (iS n o) ?_
    refine rn rfl<|d9<|c8<|f7<|l7<|f8 ?_
    obtain rfl:=si H
    exact rt hE []
   refine iF (eF e)<|i9<|j6<|c8<|d8<|c9<|rn rfl<|k0 (aE2 (by decide : (2 : Int)≠0)) ?_
   refine rn rfl ?_
   obtain ⟨p,H⟩:=i8 H
   obtain ⟨q,H⟩:=i8 H
   refine k0 (iS p q) ?_
   refine rn rfl<|d9<|c8<|f7 ?_
   obtain rfl:=si H
   exact rt hE []
  refine iT (nT (bF b))<|d8<|c9<|rn rfl<|d9<|c8<|f7<|f8 ?_
  obtain rfl:=si H
  exact rt hE []
 iterate 3 refine kx (hF (nT (bF a))) ?_
 refine k0 (o8 (nT (bF a)))<|d9<|c8<|iT rfl<|d8<|c9 ?_
 refine rn rfl<|d9<|c8<|f7<|f8 ?_
 obtain rfl:=si H
 exact rt hE []
def V3.f (c : Int) (a : Int) (d : Int) (e : Int) (b : Int) : P0:=if c = 3 then some (b == a) else if c = 4 then some (decide (b > a)) else if c = 5 then some (decide (b ≥ a)) else some ((bits .and .i64 b a) != 0)
theorem V3.ok (H : V3.f d e g h i = some r) : j7 Tryz.prog 253 [] [.agg [.lit (.int .i64 d),.lit (.int .i64 e),.lit (.int .i64 g),.lit (.int .i64 h)],.lit (.int .i64 i)] [] (.lit (.bool r)):=by
 refine u3 30 Tryz.func253 fun E hE=>?_
 rw [V3.f] at H
 refine d8<|c9<|k1 (K2 0) ?_
 refine rn rfl<|d9<|c8<|d8<|d8<|c9<|rn rfl<|d9<|c8<|j4<|d8<|c9<|rn rfl<|d9<|c8 ?_
 obtain ⟨a,H⟩|⟨a,H⟩:=oi H
 ·refine iT (eT a)<|d8<|c9<|rn rfl<|d9<|c8<|f7<|l7<|f8 ?_
  obtain rfl:=si H
  exact rt hE []
 refine iF (eF a)<|d8<|c9<|rn rfl<|d9<|c8 ?_
 obtain ⟨b,H⟩|⟨b,H⟩:=oi H
 ·refine iT (eT b)<|d8<|c9<|rn rfl<|d9<|c8<|f7<|l7<|f8 ?_
  obtain rfl:=si H
  exact rt hE []
 refine iF (eF b)<|d8<|c9<|rn rfl<|d9<|c8 ?_
 obtain ⟨c,H⟩|⟨c,H⟩:=oi H
 ·refine iT (eT c)<|d8<|c9<|rn rfl<|d9<|c8<|f7<|l7<|f8 ?_
  obtain rfl:=si H
  exact rt hE []
 refine iF (eF c)<|i9<|j6<|c8<|d8<|c9<|rn rfl<|d9<|c8<|f7 ?_
 obtain rfl:=si H
 exact rt hE []
mutual
def J6.j0 : Nat→(List f9)→Int→Int→(List r7)→Int→Int→Int→Y52
 | 0,_,_,_,_,_,_,_=>none
 | j + 1,a,c,d,e,g,k,l=>J6.l0 j a c d e k l (wrap64 (g + 1))
def J6.l0 : Nat→(List f9)→Int→Int→(List r7)→Int→Int→Int→Y52
 | 0,_,_,_,_,_,_,_=>none
 | h + 1,a,c,d,e,i,b,g=>if 0≤b then (if b < (a.length : Int) then if ((m8 a b).f0) = 1 then ((aa9.f h c d e ((m8 a b).f1)).bind fun m=>J6.j0 h a c d e g m.1 (wrap64 (b + 1))) else if ((m8 a b).f0) = 2 then J6.j0 h a c d e g (bits .and .i64 i ((m8 a b).f1)) (wrap64 (b + 1)) else if ((m8 a b).f0) = 7 then J6.j0 h a c d e g i (wrap64 ((wrap64 (b + 1)) + ((m8 a b).f1))) else if ((m8 a b).f0) = 8 then some ((m8 a b).f1,g) else ((V3.f ((m8 a b).f0) ((m8 a b).f1) ((m8 a b).f2) ((m8 a b).f3) i).bind fun n=>if n = true then J6.j0 h a c d e g i (wrap64 ((wrap64 (b + 1)) + ((m8 a b).f2))) else J6.j0 h a c d e g i (wrap64 ((wrap64 (b + 1)) + ((m8 a b).f3)))) else none) else none
end
def J6.f (k : Nat) (a : List f9) (b : Int) (c : Int) (d : List r7) : Y52:=(u9.f k a).bind fun e=>(if e = true then ((E5.f k b c d).bind fun g=>if g = true then J6.l0 k a b c d 0 0 1 else some (0,0)) else some (0,0))
theorem J6.ok (H : J6.f k b c d e = some r) : j7 Tryz.prog 204 [] [.sl .o 4 (b.map r8),.agg [.lit (.int .i64 c),.lit (.int .i64 d),.sl .o 2 (e.map S2)]] [] (.tup [.lit (.int .i64 r.1),.lit (.int .i64 r.2)]):=by
 refine u3 72 Tryz.func204 fun E hE=>?_
 rw [J6.f] at H
 refine d8<|c9<|k1 (K2 0) ?_
 refine rn rfl<|d9<|c8<|d8<|d8<|c9<|rn rfl ?_
 obtain ⟨F,v,H⟩:=f6 H
 refine kC (cl (u9.ok v) []) ?_
 refine rn rfl ?_
 obtain ⟨a,H⟩|⟨a,H⟩:=oi H
 ·refine kv (g1 (nF a)) (bA 3) ?_
  obtain ⟨G,w,H⟩:=f6 H
  refine N5 (g1 (nF a)) (cl (E5.ok w) [])<|kv (g1 (nF a)) V4 ?_
  refine k0 (n8 (nF a))<|d9<|c8 ?_
  obtain ⟨j,H⟩|⟨j,H⟩:=oi H
  ·refine iF (nF j)<|i9<|c8<|d8<|c9<|rn rfl<|d9<|c8<|d8<|c9<|rn rfl<|d9<|c8<|d8<|c9<|rn rfl<|d9<|c8<|j4 ?_
   refine lp3 (fun k=>J6.l0 k b c d e) (fun q s i=>⟨[(0,.sl .o 4 (b.map r8)),(3,.box 0 0),(6,.lit (.int .i64 q)),(7,.lit (.int .i64 s)),(8,.lit (.int .i64 i))],[(0,.box 60 [.lit (.int .i64 c),.lit (.int .i64 d),.sl .o 2 (e.map S2)])]⟩) H (fun _ h=>aw hE [] h) (fun _ _ _ _=>J6.l0.eq_2 ..) fun x q s i I H K y=>?_
   refine H0 (J:=Jc2 E 72 r x (fun k=>J6.j0 k b c d e i) (fun t u=>⟨[(0,.sl .o 4 (b.map r8)),(3,.box 0 0),(6,.lit (.int .i64 t)),(7,.lit (.int .i64 u)),(8,.lit (.int .i64 i))],[(0,.box 60 [.lit (.int .i64 c),.lit (.int .i64 d),.sl .o 2 (e.map S2)])]⟩)) ?_ ?_
   ·intro L g
    refine j4<|d8<|c9<|rn rfl ?_
    obtain ⟨z,H⟩:=i8 H
    obtain ⟨B,H⟩:=i8 H
    refine k0 (iS z B) ?_
    refine rn rfl<|k1 (al 1) ?_
    refine rn rfl<|d9<|c8<|d8<|c9<|rn rfl<|d9<|c8<|j4<|d8<|c9<|rn rfl<|d9<|c8 ?_
    obtain ⟨l,H⟩|⟨l,H⟩:=oi H
    ·refine iT (eT l)<|c9<|rn rfl ?_
     obtain ⟨M,C,H⟩:=f6 H
     refine kC (cl (aa9.ok C) []) ?_
     refine rn rfl<|d9<|j6<|j6<|l6 ?_
     exact aw hE [] (g.u (Nat.le_refl _) H)
    refine iF (eF l)<|d8<|c9<|rn rfl<|d9<|c8 ?_
    obtain ⟨m,H⟩|⟨m,H⟩:=oi H
    ·refine iT (eT m)<|c9<|rn rfl<|d9<|j6<|j6<|l6 ?_
     exact aw hE [] (g.u (Nat.le_refl _) H)
    refine iF (eF m)<|d8<|c9<|rn rfl<|d9<|c8 ?_
    obtain ⟨n,H⟩|⟨n,H⟩:=oi H
    ·refine iT (eT n)<|c9<|rn rfl<|d9<|j6<|j6<|l6 ?_
     exact aw hE [] (g.u (Nat.le_refl _) H)
    refine iF (eF n)<|d8<|c9<|rn rfl<|d9<|c8 ?_
    obtain ⟨o,H⟩|⟨o,H⟩:=oi H
    ·refine iT (eT o)<|d8<|c9<|rn rfl<|d9<|c8<|f7<|l7<|l7<|f8<|f8<|l7 ?_
     obtain rfl:=si H
     exact rt hE []
    refine iF (eF o)<|d8<|c9<|rn rfl ?_
    obtain ⟨N,D,H⟩:=f6 H
    refine kC (cl (V3.ok D) []) ?_
    refine rn rfl<|d9<|c8 ?_
    obtain ⟨p,H⟩|⟨p,H⟩:=oi H
    ·refine iT p<|c9<|rn rfl<|d9<|j6<|j6<|l6 ?_
     exact aw hE [] (g.u (Nat.le_refl _) H)
    refine iF (bF p)<|c9<|rn rfl<|d9<|j6<|j6<|l6 ?_
    exact aw hE [] (g.u (Nat.le_refl _) H)
   refine jc2 (fun _ _ _=>J6.j0.eq_2 ..) fun O t u P H=>?_
   refine c9<|rn rfl<|d9<|l6 ?_
   exact aw hE [] (y (by omega) H)
  refine iT (nT (bF j))<|d8<|c9<|rn rfl<|d9<|c8<|f7<|f8 ?_
  obtain rfl:=si H
  exact rt hE []
 iterate 3 refine kx (hF (nT (bF a))) ?_
 refine k0 (o8 (nT (bF a)))<|d9<|c8<|iT rfl<|d8<|c9 ?_
 refine rn rfl<|d9<|c8<|f7<|f8 ?_
 obtain rfl:=si H
 exact rt hE []
def P1.f (a : Int) : Y55:=(j8.f a 0 393215).bind fun b=>if b = true then some (wrap64 (a.tdiv 65536)) else some 0
theorem P1.ok (H : P1.f b = some r) : j7 Tryz.prog 149 [] [.lit (.int .i64 b)] [] (.lit (.int .i64 r)):=by
 refine u3 8 Tryz.func149 fun E hE=>?_
 rw [P1.f] at H
 refine d8<|c9<|rn rfl<|d9<|c8<|d8<|d8<|c9<|rn rfl ?_
 obtain ⟨d,c,H⟩:=f6 H
 refine kC (cl (j8.ok c) []) ?_
 refine rn rfl<|d9<|c8 ?_
 obtain ⟨a,H⟩|⟨a,H⟩:=oi H
 ·refine iF (nF a)<|i9<|c8<|d8<|c9<|rn rfl<|k0 (aE2 (by decide : (65536 : Int)≠0)) ?_
  refine rn rfl<|d9<|c8<|f7 ?_
  obtain rfl:=si H
  exact rt hE []
 refine iT (nT (bF a))<|d8<|c9<|rn rfl<|d9<|c8<|f7<|f8 ?_
 obtain rfl:=si H
 exact rt hE []
def Z1.f (a : Int) (b : Int) : Y55:=(P1.f b).bind fun c=>((P1.f a).bind fun d=>if c < d then some b else some a)
theorem Z1.ok (H : Z1.f b c = some r) : j7 Tryz.prog 205 [] [.lit (.int .i64 b),.lit (.int .i64 c)] [] (.lit (.int .i64 r)):=by
 refine u3 12 Tryz.func205 fun E hE=>?_
 rw [Z1.f] at H
 refine d8<|c9<|rn rfl<|d9<|c8<|d8<|d8<|c9<|rn rfl ?_
 obtain ⟨g,d,H⟩:=f6 H
 refine kC (cl (P1.ok d) []) ?_
 refine rn rfl ?_
 obtain ⟨h,e,H⟩:=f6 H
 refine kC (cl (P1.ok e) []) ?_
 refine rn rfl<|d9<|c8 ?_
 obtain ⟨a,H⟩|⟨a,H⟩:=oi H
 ·refine iT (decide_eq_true a)<|d8<|c9<|rn rfl<|d9<|c8<|f7<|f8 ?_
  obtain rfl:=si H
  exact rt hE []
 refine iF (decide_eq_false a)<|i9<|c8<|d8<|c9<|rn rfl<|d9<|c8<|f7 ?_
 obtain rfl:=si H
 exact rt hE []
def I6.l0 : Nat→Y51→Int→Int→(List r7)→Int→Int→Y55
 | 0,_,_,_,_,_,_=>none
 | c + 1,b,d,e,g,h,a=>if a < (b.length : Int) then if 0≤a then (J6.f c (M0 ([] : List f9) b a) d e g).bind fun i=>(Z1.f i.1 h).bind fun j=>I6.l0 c b d e g j (wrap64 (a + 1)) else none else some h
def I6.f (k : Nat) (a : Y53) (b : Int) (c : Int) (d : List r7) : Y55:=(G4.f k a).bind fun e=>(if e = true then ((E5.f k b c d).bind fun g=>if g = true then (E8.f 5 0).bind fun h=>I6.l0 k a b c d h 0 else ((E8.f 0 0).bind fun i=>some i)) else (E8.f 0 0).bind fun j=>some j)
theorem I6.ok (H : I6.f k b d e g = some r) : j7 Tryz.prog 148 [] [.sl .o 1 (b.map (eL 4 (r8))),.agg [.lit (.int .i64 d),.lit (.int .i64 e),.sl .o 2 (g.map S2)]] [] (.lit (.int .i64 r)):=by
 refine u3 37 Tryz.func148 fun E hE=>?_
 rw [I6.f] at H
 refine d8<|c9<|k1 (K2 0) ?_
 refine rn rfl<|d9<|c8<|d8<|d8<|c9<|rn rfl ?_
 obtain ⟨w,m,H⟩:=f6 H
 refine kC (cl (G4.ok m) []) ?_
 refine rn rfl ?_
 obtain ⟨a,H⟩|⟨a,H⟩:=oi H
 ·refine kv (g1 (nF a)) (bA 3) ?_
  obtain ⟨x,n,H⟩:=f6 H
  refine N5 (g1 (nF a)) (cl (E5.ok n) [])<|kv (g1 (nF a)) V4 ?_
  refine k0 (n8 (nF a))<|d9<|c8 ?_
  obtain ⟨i,H⟩|⟨i,H⟩:=oi H
  ·refine iF (nF i)<|i9<|c8<|d8<|c9 ?_
   obtain ⟨y,o,H⟩:=f6 H
   refine kC (cl (E8.ok o) []) ?_
   refine rn rfl<|d9<|c8<|d8<|d8<|c9<|rn rfl<|k0 (G3 v7) ?_
   refine rn rfl<|d9<|c8<|j4 ?_
   refine V7 (fun k=>I6.l0 k b d e g) (fun j l=>⟨[(3,.box 0 0),(5,.lit (.int .i64 j)),(20,.sl .o 1 (b.map (eL 4 (r8)))),(21,.lit (.int .i64 (b.length : Int))),(22,.lit (.int .i64 l))],[(0,.box 60 [.lit (.int .i64 d),.lit (.int .i64 e),.sl .o 2 (g.map S2)])]⟩) H (fun _ h=>aw hE [] h) (fun _ _ _=>I6.l0.eq_2 ..) fun z j l B H C p=>?_
   refine d8<|c9<|rn rfl<|d9<|c8<|d8 ?_
   obtain ⟨c,H⟩|⟨c,H⟩:=oi H
   ·refine iT (decide_eq_true c)<|i9<|c8<|d8<|j4<|d8<|c9 ?_
    obtain ⟨q,H⟩:=i8 H
    refine k0 (iS q c) ?_
    refine rn rfl<|d9<|c8<|d8<|c9<|rn rfl ?_
    obtain ⟨D,s,H⟩:=f6 H
    refine kC (cl (J6.ok s) []) ?_
    refine rn rfl<|d9<|c8<|c9<|rn rfl ?_
    obtain ⟨F,t,H⟩:=f6 H
    refine kC (cl (Z1.ok t) []) ?_
    refine rn rfl<|d9<|j6<|c8<|c9<|rn rfl<|d9<|l6 ?_
    exact aw hE [] (p (Nat.le_refl _) H)
   refine iF (decide_eq_false c)<|m6<|j5<|j5<|n7 rfl<|c8<|d8<|c9<|rn rfl<|d9<|c8<|f7 ?_
   obtain rfl:=si H
   exact rt hE []
  refine iT (nT (bF i))<|d8<|c9 ?_
  obtain ⟨G,u,H⟩:=f6 H
  refine kC (cl (E8.ok u) []) ?_
  refine rn rfl<|d9<|c8<|f7<|f8 ?_
  obtain rfl:=si H
  exact rt hE []
 iterate 3 refine kx (hF (nT (bF a))) ?_
 refine k0 (o8 (nT (bF a)))<|d9<|c8<|iT rfl<|d8<|c9 ?_
 obtain ⟨I,v,H⟩:=f6 H
 refine kC (cl (E8.ok v) []) ?_
 refine rn rfl<|d9<|c8<|f7<|f8 ?_
 obtain rfl:=si H
 exact rt hE []
def T4.f (a : Int) (b : Int) (c : Int) (d : Int) : P0:=if a = 1 then ((x9.f b).bind fun e=>(if e = true then ((x9.f c).bind fun g=>(if g = true then some (d == 0) else some false)) else some false)) else if a = 2 then ((j8.f d 1 1000000000).bind fun h=>(if h = true then (if b = 0 then some (c == 0) else some false) else some false)) else some false
theorem T4.ok (H : T4.f h i j k = some r) : j7 Tryz.prog 200 [] [.agg [.lit (.int .i64 h),.lit (.int .i64 i),.lit (.int .i64 j),.lit (.int .i64 k)]] [] (.lit (.bool r)):=by
 refine u3 35 Tryz.func200 fun E hE=>?_
 rw [T4.f] at H
 refine d8<|c9<|k1 (K2 0) ?_
 refine rn rfl<|d9<|c8<|d8<|d8<|c9<|rn rfl<|d9<|c8<|j4<|d8<|c9<|rn rfl<|d9<|c8 ?_
 obtain ⟨e,H⟩|⟨e,H⟩:=oi H
 ·refine iT (eT e)<|d8<|c9<|rn rfl ?_
  obtain ⟨o,l,H⟩:=f6 H
  refine kC (cl (x9.ok l) []) ?_
  refine rn rfl ?_
  obtain ⟨a,H⟩|⟨a,H⟩:=oi H
  ·refine kv (g1 a) (y8 2 2)<|kv (g1 a) B5 ?_
   obtain ⟨p,m,H⟩:=f6 H
   refine N5 (g1 a) (cl (x9.ok m) []) ?_
   refine k0 (o8 a) ?_
   refine rn rfl ?_
   obtain ⟨b,H⟩|⟨b,H⟩:=oi H
   ·refine kv (g1 b) (y8 3 3)<|kv (g1 b) B5<|kv (g1 b) eql ?_
    refine k0 (o8 b) ?_
    refine rn rfl<|d9<|c8<|f7<|l7<|f8 ?_
    obtain rfl:=si H
    exact rt hE []
   iterate 3 refine kx (hT (bF b)) ?_
   refine k0 (n8 (bF b)) ?_
   refine rn rfl<|d9<|c8<|f7<|l7<|f8 ?_
   obtain rfl:=si H
   exact rt hE []
  iterate 3 refine kx (hT (bF a)) ?_
  refine k0 (n8 (bF a)) ?_
  refine rn rfl ?_
  iterate 3 refine kx (hT rfl) ?_
  refine k0 (n8 rfl) ?_
  refine rn rfl<|d9<|c8<|f7<|l7<|f8 ?_
  obtain rfl:=si H
  exact rt hE []
 refine iF (eF e)<|d8<|c9<|rn rfl<|d9<|c8 ?_
 obtain ⟨g,H⟩|⟨g,H⟩:=oi H
 ·refine iT (eT g)<|d8<|c9<|rn rfl ?_
  obtain ⟨q,n,H⟩:=f6 H
  refine kC (cl (j8.ok n) []) ?_
  refine rn rfl ?_
  obtain ⟨c,H⟩|⟨c,H⟩:=oi H
  ·refine kv (g1 c) (y8 1 1)<|kv (g1 c) B5<|kv (g1 c) eql ?_
   refine k0 (o8 c) ?_
   refine rn rfl ?_
   obtain ⟨d,H⟩|⟨d,H⟩:=oi H
   ·refine kv (g1 (eT d)) (y8 2 2)<|kv (g1 (eT d)) B5<|kv (g1 (eT d)) eql ?_
    refine k0 (o8 (eT d)) ?_
    refine rn rfl<|d9<|c8<|f7<|l7<|f8 ?_
    obtain rfl:=si H
    exact rt hE []
   iterate 3 refine kx (hT (eF d)) ?_
   refine k0 (n8 (eF d)) ?_
   refine rn rfl<|d9<|c8<|f7<|l7<|f8 ?_
   obtain rfl:=si H
   exact rt hE []
  iterate 3 refine kx (hT (bF c)) ?_
  refine k0 (n8 (bF c)) ?_
  refine rn rfl ?_
  iterate 3 refine kx (hT rfl) ?_
  refine k0 (n8 rfl) ?_
  refine rn rfl<|d9<|c8<|f7<|l7<|f8 ?_
  obtain rfl:=si H
  exact rt hE []
 refine iF (eF g)<|i9<|j6<|c8<|d8<|c9<|rn rfl<|d9<|c8<|f7 ?_
 obtain rfl:=si H
 exact rt hE []
def E7.l0 : Nat→(List u5)→Int→P0
 | 0,_,_=>none
 | c + 1,b,a=>if a < (b.length : Int) then if 0≤a then (T4.f ((H2 b a).f0) ((H2 b a).f1) ((H2 b a).f2) ((H2 b a).f3)).bind fun d=>if d = true then E7.l0 c b (wrap64 (a + 1)) else some false else none else some true
def E7.f (k : Nat) (a : List u5) : P0:=E7.l0 k a 0
theorem E7.ok (H : E7.f k a = some r) : j7 Tryz.prog 199 [] [.sl .o 4 (a.map I1)] [] (.lit (.bool r)):=by
 refine u3 15 Tryz.func199 fun E hE=>?_
 rw [E7.f] at H
 refine d8<|c9<|rn rfl<|d9<|c8<|d8<|d8<|c9<|rn rfl<|k0 (G3 v7) ?_
 refine rn rfl<|d9<|c8<|j4 ?_
 refine lp1 (fun k=>E7.l0 k a) (fun d=>⟨[(5,.sl .o 4 (a.map I1)),(6,.lit (.int .i64 (a.length : Int))),(7,.lit (.int .i64 d))],[]⟩) H (fun _ h=>aw hE [] h) (fun _ _=>E7.l0.eq_2 ..) fun j d l H m e=>?_
 refine d8<|c9<|rn rfl<|d9<|c8<|d8 ?_
 obtain ⟨b,H⟩|⟨b,H⟩:=oi H
 ·refine iT (decide_eq_true b)<|i9<|c8<|d8<|j4<|d8<|c9 ?_
  obtain ⟨g,H⟩:=i8 H
  refine k0 (iS g b) ?_
  refine rn rfl<|k1 (al 0) ?_
  refine rn rfl<|d9<|c8<|d8<|c9<|rn rfl ?_
  obtain ⟨n,i,H⟩:=f6 H
  refine kC (cl (T4.ok i) []) ?_
  refine rn rfl<|d9<|c8 ?_
  obtain ⟨c,H⟩|⟨c,H⟩:=oi H
  ·refine iF (nF c)<|i9<|j6<|c8<|c9<|rn rfl<|d9<|l6 ?_
   exact aw hE [] (e (Nat.le_refl _) H)
  refine iT (nT (bF c))<|d8<|c9<|rn rfl<|d9<|c8<|f7<|l7<|f8<|f8<|l7<|f8 ?_
  obtain rfl:=si H
  exact rt hE []
 refine iF (decide_eq_false b)<|m6<|j5<|j5<|n7 rfl<|c8<|d8<|c9<|rn rfl<|d9<|c8<|f7 ?_
 obtain rfl:=si H
 exact rt hE []
def H6.l0 : Nat→(List u5)→Int→Int→Int→Int→Int→P0
 | 0,_,_,_,_,_,_=>none
 | e + 1,b,g,h,c,d,a=>if a < (b.length : Int) then if 0≤a then if ((H2 b a).f0) = 1 then H6.l0 e b g h c (wrap64 (d + 1)) (wrap64 (a + 1)) else H6.l0 e b g h c (wrap64 (d + ((H2 b a).f3))) (wrap64 (a + 1)) else none else some (decide (d≤c))
def H6.f (k : Nat) (a : List u5) (c : Int) (b : Int) (d : Int) : P0:=if (a.length : Int) > 4 then some false else ((E7.f k a).bind fun e=>(if e = true then ((j8.f c 0 5).bind fun g=>(if g = true then ((j8.f b 0 1000000000).bind fun h=>(if h = true then ((j8.f d 0 1000000000).bind fun i=>if i = true then H6.l0 k a c b d b 0 else some false) else some false)) else some false)) else some false))
theorem H6.ok (H : H6.f k e i j l = some r) : j7 Tryz.prog 197 [] [.agg [.sl .o 4 (e.map I1),.lit (.int .i64 i),.lit (.int .i64 j),.lit (.int .i64 l)]] [] (.lit (.bool r)):=by
 refine u3 57 Tryz.func197 fun E hE=>?_
 rw [H6.f] at H
 refine d8<|c9<|k1 (K2 0) ?_
 refine rn rfl<|d9<|c8<|d8<|d8<|c9<|rn rfl<|k0 (G3 v7) ?_
 refine rn rfl ?_
 obtain ⟨a,H⟩|⟨a,H⟩:=oi H
 ·iterate 4 refine kx (hF (decide_eq_true a)) ?_
  refine k0 (o8 (decide_eq_true a)) ?_
  refine rn rfl ?_
  iterate 4 refine kx (hF rfl) ?_
  refine k0 (o8 rfl) ?_
  refine rn rfl ?_
  iterate 4 refine kx (hF rfl) ?_
  refine k0 (o8 rfl) ?_
  refine rn rfl ?_
  iterate 4 refine kx (hF rfl) ?_
  refine k0 (o8 rfl)<|d9<|c8<|iT rfl<|d8<|c9 ?_
  refine rn rfl<|d9<|c8<|f7<|f8 ?_
  obtain rfl:=si H
  exact rt hE []
 refine kv (g1 (decide_eq_false a)) (y8 0 0)<|kv (g1 (decide_eq_false a)) B5 ?_
 obtain ⟨x,s,H⟩:=f6 H
 refine N5 (g1 (decide_eq_false a)) (cl (E7.ok s) [])<|kv (g1 (decide_eq_false a)) V4 ?_
 refine k0 (n8 (decide_eq_false a)) ?_
 refine rn rfl ?_
 obtain ⟨b,H⟩|⟨b,H⟩:=oi H
 ·refine kv (g1 (nF b)) (y8 1 1)<|kv (g1 (nF b)) B5 ?_
  obtain ⟨y,t,H⟩:=f6 H
  refine N5 (g1 (nF b)) (cl (j8.ok t) [])<|kv (g1 (nF b)) V4 ?_
  refine k0 (n8 (nF b)) ?_
  refine rn rfl ?_
  obtain ⟨c,H⟩|⟨c,H⟩:=oi H
  ·refine kv (g1 (nF c)) (y8 2 2)<|kv (g1 (nF c)) B5 ?_
   obtain ⟨z,u,H⟩:=f6 H
   refine N5 (g1 (nF c)) (cl (j8.ok u) [])<|kv (g1 (nF c)) V4 ?_
   refine k0 (n8 (nF c)) ?_
   refine rn rfl ?_
   obtain ⟨d,H⟩|⟨d,H⟩:=oi H
   ·refine kv (g1 (nF d)) (y8 3 3)<|kv (g1 (nF d)) B5 ?_
    obtain ⟨B,v,H⟩:=f6 H
    refine N5 (g1 (nF d)) (cl (j8.ok v) [])<|kv (g1 (nF d)) V4 ?_
    refine k0 (n8 (nF d))<|d9<|c8 ?_
    obtain ⟨m,H⟩|⟨m,H⟩:=oi H
    ·refine iF (nF m)<|i9<|c8<|d8<|c9<|rn rfl<|d9<|c8<|d8<|d8<|c9<|rn rfl<|k0 (G3 v7) ?_
     refine rn rfl<|d9<|c8<|j4 ?_
     refine V7 (fun k=>H6.l0 k e i j l) (fun o p=>⟨[(1,.box 0 0),(3,.lit (.int .i64 o)),(37,.sl .o 4 (e.map I1)),(38,.lit (.int .i64 (e.length : Int))),(39,.lit (.int .i64 p))],[(0,.box 50 [.sl .o 4 (e.map I1),.lit (.int .i64 i),.lit (.int .i64 j),.lit (.int .i64 l)])]⟩) H (fun _ h=>aw hE [] h) (fun _ _ _=>H6.l0.eq_2 ..) fun C o p D H F q=>?_
     refine d8<|c9<|rn rfl<|d9<|c8<|d8 ?_
     obtain ⟨g,H⟩|⟨g,H⟩:=oi H
     ·refine iT (decide_eq_true g)<|i9<|c8<|d8<|j4<|d8<|c9 ?_
      obtain ⟨w,H⟩:=i8 H
      refine k0 (iS w g) ?_
      refine rn rfl<|k1 (al 1) ?_
      refine rn rfl<|d9<|c8<|d8<|c9<|rn rfl<|d9<|c8 ?_
      obtain ⟨n,H⟩|⟨n,H⟩:=oi H
      ·refine iT (eT n)<|c9<|rn rfl<|d9<|j6<|c8<|c9<|rn rfl<|d9<|l6 ?_
       exact aw hE [] (q (Nat.le_refl _) H)
      refine iF (eF n)<|c9<|rn rfl<|d9<|j6<|c8<|c9<|rn rfl<|d9<|l6 ?_
      exact aw hE [] (q (Nat.le_refl _) H)
     refine iF (decide_eq_false g)<|m6<|j5<|j5<|n7 rfl<|c8<|d8<|c9<|rn rfl<|d9<|c8<|f7 ?_
     obtain rfl:=si H
     exact rt hE []
    refine iT (nT (bF m))<|d8<|c9<|rn rfl<|d9<|c8<|f7<|f8 ?_
    obtain rfl:=si H
    exact rt hE []
   iterate 4 refine kx (hF (nT (bF d))) ?_
   refine k0 (o8 (nT (bF d)))<|d9<|c8<|iT rfl<|d8<|c9 ?_
   refine rn rfl<|d9<|c8<|f7<|f8 ?_
   obtain rfl:=si H
   exact rt hE []
  iterate 4 refine kx (hF (nT (bF c))) ?_
  refine k0 (o8 (nT (bF c))) ?_
  refine rn rfl ?_
  iterate 4 refine kx (hF rfl) ?_
  refine k0 (o8 rfl)<|d9<|c8<|iT rfl<|d8<|c9 ?_
  refine rn rfl<|d9<|c8<|f7<|f8 ?_
  obtain rfl:=si H
  exact rt hE []
 iterate 4 refine kx (hF (nT (bF b))) ?_
 refine k0 (o8 (nT (bF b))) ?_
 refine rn rfl ?_
 iterate 4 refine kx (hF rfl) ?_
 refine k0 (o8 rfl) ?_
 refine rn rfl ?_
 iterate 4 refine kx (hF rfl) ?_
 refine k0 (o8 rfl)<|d9<|c8<|iT rfl<|d8<|c9 ?_
 refine rn rfl<|d9<|c8<|f7<|f8 ?_
 obtain rfl:=si H
 exact rt hE []
mutual
def z8.j1 : Nat→(List u5)→Int→Int→Int→Int→Int→((List u5)×Int×Int×Int)→Bool→Y21
 | 0,_,_,_,_,_,_,_,_=>none
 | i + 1,e,g,d,h,b,c,a,l=>if l = true then some (a.1,a.2.1,wrap64 (a.2.2.1 + 1),wrap64 (a.2.2.2 + 1),false) else if d > 0 then (if a.1.length + ([(⟨2,0,0,d⟩ : u5)] : List u5).length < 4398046511104 then z8.j2 i b c a (a.1 ++ ([(⟨2,0,0,d⟩ : u5)] : List u5)) 0 else none) else z8.j2 i b c a a.1 a.2.2.1
def z8.j2 : Nat→Int→Int→((List u5)×Int×Int×Int)→(List u5)→Int→Y21
 | 0,_,_,_,_,_=>none
 | o + 1,b,c,a,j,m=>if j.length + ([(⟨1,b,c,0⟩ : u5)] : List u5).length < 4398046511104 then some (j ++ ([(⟨1,b,c,0⟩ : u5)] : List u5),wrap64 (a.2.1 - 1),m,wrap64 (a.2.2.2 + 1),true) else none
def z8.j0 : Nat→(List u5)→Int→Int→Int→Int→Int→((List u5)×Int×Int×Int)→Int→Y21
 | 0,_,_,_,_,_,_,_,_=>none
 | k + 1,e,g,d,h,b,c,a,n=>if g = 0 then z8.j1 k e g d h b c a true else z8.j1 k e g d h b c a (decide ((wrap64 ((e.length : Int) + n)) > 4))
end
def z8.f (k : Nat) (d : List u5) (e : Int) (b : Int) (c : Int) (g : Int) (h : Int) : Y21:=(I8.f d e b c).bind fun a=>(H6.f k d e b c).bind fun i=>(if i = true then ((x9.f g).bind fun j=>(if j = true then ((x9.f h).bind fun l=>(if l = true then if c = 1000000000 then some (a.1,a.2.1,a.2.2.1,a.2.2.2,false) else if b > 0 then z8.j0 k d e b c g h a 2 else z8.j0 k d e b c g h a 1 else some (a.1,a.2.1,a.2.2.1,a.2.2.2,false))) else some (a.1,a.2.1,a.2.2.1,a.2.2.2,false))) else some (a.1,a.2.1,a.2.2.1,a.2.2.2,false))
theorem z8.ok (H : z8.f k j l e m c d = some r) : j7 Tryz.prog 150 [] [.agg [.sl .o 4 (j.map I1),.lit (.int .i64 l),.lit (.int .i64 e),.lit (.int .i64 m)],.lit (.int .i64 c),.lit (.int .i64 d)] [(0,.row 46 4 (r.1.map I1))] (.tup [.agg [.row 0,.lit (.int .i64 r.2.1),.lit (.int .i64 r.2.2.1),.lit (.int .i64 r.2.2.2.1)],.lit (.bool r.2.2.2.2)]):=by
 refine u3 79 Tryz.func150 fun E hE=>?_
 rw [z8.f] at H
 refine d8<|c9<|k1 (K2 0)<|k1 (al 1) ?_
 refine rn rfl<|d9<|c8<|d8<|c9<|rn rfl ?_
 obtain ⟨a,B,H⟩:=f6 H
 refine kC (cl (I8.ok B) [2])<|k1 (al 3) ?_
 refine rn rfl<|d9<|c8<|d8<|d8<|c9<|rn rfl ?_
 obtain ⟨M,C,H⟩:=f6 H
 refine kC (cl (H6.ok C) []) ?_
 refine rn rfl ?_
 obtain ⟨g,H⟩|⟨g,H⟩:=oi H
 ·refine kv (g1 (nF g)) mv ?_
  obtain ⟨N,D,H⟩:=f6 H
  refine N5 (g1 (nF g)) (cl (x9.ok D) [])<|kv (g1 (nF g)) V4 ?_
  refine k0 (n8 (nF g)) ?_
  refine rn rfl ?_
  obtain ⟨h,H⟩|⟨h,H⟩:=oi H
  ·refine kv (g1 (nF h)) mv ?_
   obtain ⟨O,F,H⟩:=f6 H
   refine N5 (g1 (nF h)) (cl (x9.ok F) [])<|kv (g1 (nF h)) V4 ?_
   refine k0 (n8 (nF h)) ?_
   refine rn rfl ?_
   obtain ⟨i,H⟩|⟨i,H⟩:=oi H
   ·refine kv (g1 (nF i)) (y8 3 3)<|kv (g1 (nF i)) B5<|kv (g1 (nF i)) eql ?_
    refine k0 (n8 (nF i))<|d9<|c8 ?_
    obtain ⟨n,H⟩|⟨n,H⟩:=oi H
    ·refine iT (eT n)<|d8<|c9<|rn rfl<|d9<|c8<|f7<|f8 ?_
     obtain rfl:=si H
     exact rt hE [(0,2)] (hr:=(D5 4 (.tmp .nil)))
    refine iF (eF n)<|i9<|c8<|d8<|c9<|rn rfl<|d9<|c8<|d8<|c9<|rn rfl<|d9<|c8 ?_
    refine H0 (J:=Jc1 E 79 r k (fun k=>z8.j0 k j l e m c d a) (fun t=>⟨[(1,.lit (.int .i64 c)),(2,.lit (.int .i64 d)),(3,.box 0 0),(6,.box 1 0),(8,.box 3 0),(9,.lit (.int .i64 t))],[(0,.box 50 [.sl .o 4 (j.map I1),.lit (.int .i64 l),.lit (.int .i64 e),.lit (.int .i64 m)]),(1,.box 50 [.lit (.slice none 0 0),.lit (.int .i64 0),.lit (.int .i64 0),.lit (.int .i64 0)]),(2,.row 46 4 (a.1.map I1)),(3,.box 50 [.row 2,.lit (.int .i64 a.2.1),.lit (.int .i64 a.2.2.1),.lit (.int .i64 (wrap64 (a.2.2.2 + 1)))])]⟩)) ?_ ?_
    ·intro u v
     refine d8<|c9<|rn rfl<|d9<|c8 ?_
     obtain ⟨o,H⟩|⟨o,H⟩:=oi H
     ·refine iT (decide_eq_true o)<|c9<|rn rfl<|d9<|l6 ?_
      exact aw hE [] (v.u (Nat.le_refl _) H)
     refine iF (decide_eq_false o)<|i9<|l6 ?_
     exact aw hE [] (v.u (Nat.le_refl _) H)
    refine jc1 (fun _ _=>z8.j0.eq_2 ..) fun G t P H=>?_
    refine d8 ?_
    refine H0 (J:=Jc1 E 79 r G (fun k=>z8.j1 k j l e m c d a) (fun w=>⟨[(1,.lit (.int .i64 c)),(2,.lit (.int .i64 d)),(3,.box 0 0),(6,.box 1 0),(8,.box 3 0),(48,.lit (.bool w))],[(0,.box 50 [.sl .o 4 (j.map I1),.lit (.int .i64 l),.lit (.int .i64 e),.lit (.int .i64 m)]),(1,.box 50 [.lit (.slice none 0 0),.lit (.int .i64 0),.lit (.int .i64 0),.lit (.int .i64 0)]),(2,.row 46 4 (a.1.map I1)),(3,.box 50 [.row 2,.lit (.int .i64 a.2.1),.lit (.int .i64 a.2.2.1),.lit (.int .i64 (wrap64 (a.2.2.2 + 1)))])]⟩)) ?_ ?_
    ·intro u x
     refine c9<|rn rfl ?_
     obtain ⟨b,H⟩|⟨b,H⟩:=oi H
     ·iterate 6 refine kx (hF (eT b)) ?_
      refine k0 (o8 (eT b))<|d9<|l6 ?_
      exact aw hE [] (x.u (Nat.le_refl _) H)
     refine kv (g1 (eF b)) (y8 0 0)<|kv (g1 (eF b)) B5<|kv (g1 (eF b)) (G3 v7)<|kv (g1 (eF b)) mv<|kv (g1 (eF b)) aA4<|kv (g1 (eF b)) gtr ?_
     refine k0 (n8 (eF b))<|d9<|l6 ?_
     exact aw hE [] (x.u (Nat.le_refl _) H)
    refine jc1 (fun _ _=>z8.j1.eq_2 ..) fun I w Q H=>?_
    obtain ⟨p,H⟩|⟨p,H⟩:=oi H
    ·refine iT p<|d8<|c9<|rn rfl<|d9<|c8<|d8<|c9<|rn rfl<|d9<|c8<|f7<|f8 ?_
     obtain rfl:=si H
     exact rt hE [(0,2)] (hr:=(D5 4 (.tmp .nil)))
    refine iF (bF p)<|i9<|c8<|d8<|c9<|rn rfl<|d9<|c8 ?_
    refine H0 (J:=Jc2 E 79 r I (fun k=>z8.j2 k c d a) (fun q y=>⟨[(1,.lit (.int .i64 c)),(2,.lit (.int .i64 d)),(6,.box 1 0),(8,.box 3 0)],[(1,.box 50 [.lit (.slice none 0 0),.lit (.int .i64 0),.lit (.int .i64 0),.lit (.int .i64 0)]),(3,.box 50 [.row 5,.lit (.int .i64 (wrap64 (a.2.1 - 1))),.lit (.int .i64 y),.lit (.int .i64 (wrap64 (a.2.2.2 + 1)))]),(5,.row 46 4 (q.map I1))]⟩)) ?_ ?_
    ·intro u z
     refine d8<|c9<|rn rfl<|d9<|c8 ?_
     obtain ⟨s,H⟩|⟨s,H⟩:=oi H
     ·refine iT (decide_eq_true s)<|d8<|c9<|rn rfl<|k1 (u7 4 46 4 [.int .i64 0,.int .i64 0,.int .i64 0,.int .i64 0] (([(⟨2,0,0,e⟩ : u5)] : List u5).map I1)) ?_
      obtain ⟨K,H⟩:=i8 H
      refine k3 (D7 5 46 4 32 [.int .i64 0,.int .i64 0,.int .i64 0,.int .i64 0] ((a.1 ++ ([(⟨2,0,0,e⟩ : u5)] : List u5)).map I1) (.row rfl) (D8 K rfl) z7) ?_
      refine rn rfl<|d9<|c8<|c9<|rn rfl<|d9<|l6 ?_
      exact aw hE [] (z.u (Nat.le_refl _) H)
     refine iF (decide_eq_false s)<|i9<|l6 ?_
     exact aw hE [(5,2)] (z.u (Nat.le_refl _) H)
    refine jc2 (fun _ _ _=>z8.j2.eq_2 ..) fun R q y T H=>?_
    refine d8<|c9<|rn rfl<|k1 (u7 6 46 4 [.int .i64 0,.int .i64 0,.int .i64 0,.int .i64 0] (([(⟨1,c,d,0⟩ : u5)] : List u5).map I1)) ?_
    obtain ⟨L,H⟩:=i8 H
    refine k3 (D7 7 46 4 32 [.int .i64 0,.int .i64 0,.int .i64 0,.int .i64 0] ((q ++ ([(⟨1,c,d,0⟩ : u5)] : List u5)).map I1) (.row rfl) (D8 L rfl) z7) ?_
    refine rn rfl<|d9<|c8<|d8<|c9<|rn rfl<|d9<|c8<|f7 ?_
    obtain rfl:=si H
    exact rt hE [(0,7)] (hr:=(D5 4 (.tmp .nil)))
   iterate 3 refine kx (hF (nT (bF i))) ?_
   refine k0 (o8 (nT (bF i)))<|d9<|c8<|iT rfl<|d8<|c9 ?_
   refine rn rfl<|d9<|c8<|f7<|f8 ?_
   obtain rfl:=si H
   exact rt hE [(0,2)] (hr:=(D5 4 (.tmp .nil)))
  iterate 3 refine kx (hF (nT (bF h))) ?_
  refine k0 (o8 (nT (bF h))) ?_
  refine rn rfl ?_
  iterate 3 refine kx (hF rfl) ?_
  refine k0 (o8 rfl)<|d9<|c8<|iT rfl<|d8<|c9 ?_
  refine rn rfl<|d9<|c8<|f7<|f8 ?_
  obtain rfl:=si H
  exact rt hE [(0,2)] (hr:=(D5 4 (.tmp .nil)))
 iterate 3 refine kx (hF (nT (bF g))) ?_
 refine k0 (o8 (nT (bF g))) ?_
 refine rn rfl ?_
 iterate 3 refine kx (hF rfl) ?_
 refine k0 (o8 rfl) ?_
 refine rn rfl ?_
 iterate 3 refine kx (hF rfl) ?_
 refine k0 (o8 rfl)<|d9<|c8<|iT rfl<|d8<|c9 ?_
 refine rn rfl<|d9<|c8<|f7<|f8 ?_
 obtain rfl:=si H
 exact rt hE [(0,2)] (hr:=(D5 4 (.tmp .nil)))
def W9.f (a : Bool) : Y55:=if a = true then some 0 else some 1
theorem W9.ok (H : W9.f b = some r) : j7 Tryz.prog 75 [] [.lit (.bool b)] [] (.lit (.int .i64 r)):=by
 refine u3 4 Tryz.func75 fun E hE=>?_
 rw [W9.f] at H
 refine d8<|c9<|rn rfl<|d9<|c8<|d8<|d8<|c9<|rn rfl<|d9<|c8 ?_
 obtain ⟨a,H⟩|⟨a,H⟩:=oi H
 ·refine iT a<|d8<|c9<|rn rfl<|d9<|c8<|f7<|f8 ?_
  obtain rfl:=si H
  exact rt hE []
 refine iF (bF a)<|i9<|c8<|d8<|c9<|rn rfl<|d9<|c8<|f7 ?_
 obtain rfl:=si H
 exact rt hE []
def T5.f (k : Nat) (e : Y42) (b : List H7) (l : List D3) (m : List D1) (n : List Int) (o : List A2) (p : Int) (q : List Int) (r : List C7) (s : Int) (i : List Int) (j : List E9) (a : Int) (t : Int) (g : Int) (d : List r7) : Y1:=if 0≤a then (if a < (e.length : Int) then ((I6.f k (M0 ([] : List (List f9)) e a) t g d).bind fun h=>if i.length + ([h] : List Int).length < 17592186044416 then (P1.f h).bind fun u=>if u = 4 then if a < (b.length : Int) then (if 0 < (d.length : Int) then ((z8.f k ((V2 b a).f0) ((V2 b a).f1) ((V2 b a).f2) ((V2 b a).f3) g ((ac1 d 0).f1)).bind fun c=>if j.length + ([(⟨a,g,(ac1 d 0).f1,c.2.2.2.2⟩ : E9)] : List E9).length < 4398046511104 then (W9.f c.2.2.2.2).bind fun v=>some (v,e,b.set a.toNat (⟨c.1,c.2.1,c.2.2.1,c.2.2.2.1⟩ : H7),l,m,n,o,p,q,r,s,i ++ ([h] : List Int),j ++ ([(⟨a,g,(ac1 d 0).f1,c.2.2.2.2⟩ : E9)] : List E9)) else none) else none) else none else some (0,e,b,l,m,n,o,p,q,r,s,i ++ ([h] : List Int),j) else none) else none) else none
theorem T5.ok (H : T5.f k s i t u v w j x y l m n c B e g = some r) : j7 Tryz.prog 73 [(0,.box 37 [.row 1,.row 2,.row 3,.row 4,.row 5,.row 6,.lit (.int .i64 j),.row 7,.row 8,.lit (.int .i64 l),.row 9,.row 10]),(1,.row 102 1 (s.map (eL 1 (eL 4 (r8))))),(2,.row 50 4 (i.map M5)),(3,.row 48 5 (t.map L2)),(4,.row 96 6 (u.map I2)),(5,.row 3 1 (v.map (eI .i64))),(6,.row 116 6 (w.map C9)),(7,.row 3 1 (x.map (eI .i64))),(8,.row 108 3 (y.map F9)),(9,.row 3 1 (m.map (eI .i64))),(10,.row 42 4 (n.map M6))] [.box 0 0,.lit (.int .i64 c),.agg [.lit (.int .i64 B),.lit (.int .i64 e),.sl .o 2 (g.map S2)]] [(0,.box 37 [.row 1,.row 2,.row 3,.row 4,.row 5,.row 6,.lit (.int .i64 r.2.2.2.2.2.2.2.1),.row 7,.row 8,.lit (.int .i64 r.2.2.2.2.2.2.2.2.2.2.1),.row 11,.row 12]),(1,.row 102 1 (r.2.1.map (eL 1 (eL 4 (r8))))),(2,.row 50 4 (r.2.2.1.map M5)),(3,.row 48 5 (r.2.2.2.1.map L2)),(4,.row 96 6 (r.2.2.2.2.1.map I2)),(5,.row 3 1 (r.2.2.2.2.2.1.map (eI .i64))),(6,.row 116 6 (r.2.2.2.2.2.2.1.map C9)),(7,.row 3 1 (r.2.2.2.2.2.2.2.2.1.map (eI .i64))),(8,.row 108 3 (r.2.2.2.2.2.2.2.2.2.1.map F9)),(9,.gone),(10,.gone),(11,.row 3 1 (r.2.2.2.2.2.2.2.2.2.2.2.1.map (eI .i64))),(12,.row 42 4 (r.2.2.2.2.2.2.2.2.2.2.2.2.map M6))] (.lit (.int .i64 r.1)):=by
 refine u3 78 Tryz.func73 fun E hE=>?_
 rw [T5.f] at H
 refine d8<|c9<|k1 (K2 11) ?_
 refine rn rfl<|d9<|c8<|d8<|c9<|rn rfl ?_
 obtain ⟨b,H⟩:=i8 H
 obtain ⟨o,H⟩:=i8 H
 refine k0 (iR b o)<|k0 (qL b o) ?_
 refine rn rfl ?_
 obtain ⟨p,C,H⟩:=f6 H
 refine kC (cl (I6.ok C) []) ?_
 refine rn rfl<|ed<|c8<|d8<|c9<|rn rfl<|k1 (u7 12 3 1 [.int .i64 0] (([p] : List Int).map (eI .i64))) ?_
 obtain ⟨D,H⟩:=i8 H
 refine k3 (D7 13 3 1 8 [.int .i64 0] ((m ++ ([p] : List Int)).map (eI .i64)) (.row rfl) (D8 D rfl) z7) ?_
 refine rn rfl<|d9<|c8<|d8<|d8<|c9<|rn rfl ?_
 obtain ⟨K,F,H⟩:=f6 H
 refine kC (cl (P1.ok F) []) ?_
 refine rn rfl<|d9<|c8 ?_
 obtain ⟨h,H⟩|⟨h,H⟩:=oi H
 ·refine iF (eM h)<|i9<|c8<|d8<|c9<|rn rfl ?_
  obtain ⟨d,H⟩:=i8 H
  refine k0 (iR b d)<|k0 (qA 4 b d) ?_
  refine rn rfl ?_
  obtain ⟨q,H⟩:=i8 H
  refine k0 (iS (by decide : (0 : Int)≤0) q) ?_
  refine rn rfl ?_
  obtain ⟨a,G,H⟩:=f6 H
  refine kC (cl (z8.ok G) [14]) ?_
  refine rn rfl<|k1 (al 15) ?_
  refine rn rfl<|ed<|c8<|d8 ?_
  refine aq7 14<|c9 ?_
  refine rn rfl<|k0 (iR b d)<|k2 (stE 4 (M5 (⟨a.1,a.2.1,a.2.2.1,a.2.2.2.1⟩ : H7)) ((i.set c.toNat (⟨a.1,a.2.1,a.2.2.1,a.2.2.2.1⟩ : H7)).map M5) (ab9 (z:=z50) b d) af4)<|ed<|c8<|d8<|c9 ?_
  refine rn rfl<|k0 (iS (by decide : (0 : Int)≤0) q) ?_
  refine rn rfl<|k1 (u7 16 42 4 [.int .i64 0,.int .i64 0,.int .i64 0,.bool false] (([(⟨c,e,(ac1 g 0).f1,a.2.2.2.2⟩ : E9)] : List E9).map M6)) ?_
  obtain ⟨I,H⟩:=i8 H
  refine k3 (D7 17 42 4 32 [.int .i64 0,.int .i64 0,.int .i64 0,.bool false] ((n ++ ([(⟨c,e,(ac1 g 0).f1,a.2.2.2.2⟩ : E9)] : List E9)).map M6) (.row rfl) (D8 I rfl) z7) ?_
  refine rn rfl<|ed<|c8<|d8<|c9<|rn rfl ?_
  obtain ⟨L,J,H⟩:=f6 H
  refine kC (cl (W9.ok J) []) ?_
  refine rn rfl<|d9<|c8<|f7 ?_
  obtain rfl:=si H
  exact rt hE [(11,13),(12,17)]
 refine iT (eN h)<|d8<|c9<|rn rfl<|d9<|c8<|f7<|f8 ?_
 refine D4 0 11 18 [.row 1,.row 2,.row 3,.row 4,.row 5,.row 6,.lit (.int .i64 j),.row 7,.row 8,.lit (.int .i64 l),.row 13,.row 18] ?_
 obtain rfl:=si H
 exact rt hE [(11,13),(12,18)]
def U9.f (a : Int) : P0:=if a ≥ 97 then some (decide (a≤122)) else some false
theorem U9.ok (H : U9.f b = some r) : j7 Tryz.prog 254 [] [.lit (.int .u8 b)] [] (.lit (.bool r)):=by
 refine u3 9 Tryz.func254 fun E hE=>?_
 rw [U9.f] at H
 refine d8<|c9<|rn rfl<|d9<|c8<|d8<|c9<|rn rfl ?_
 obtain ⟨a,H⟩|⟨a,H⟩:=oi H
 ·refine kv (g1 (decide_eq_true a)) mv<|kv (g1 (decide_eq_true a)) leq ?_
  refine k0 (o8 (decide_eq_true a)) ?_
  refine rn rfl<|d9<|c8<|f7 ?_
  obtain rfl:=si H
  exact rt hE []
 iterate 2 refine kx (hT (decide_eq_false a)) ?_
 refine k0 (n8 (decide_eq_false a)) ?_
 refine rn rfl<|d9<|c8<|f7 ?_
 obtain rfl:=si H
 exact rt hE []
def U8.f (a : Int) : P0:=if a ≥ 48 then some (decide (a≤57)) else some false
theorem U8.ok (H : U8.f b = some r) : j7 Tryz.prog 256 [] [.lit (.int .u8 b)] [] (.lit (.bool r)):=by
 refine u3 9 Tryz.func256 fun E hE=>?_
 rw [U8.f] at H
 refine d8<|c9<|rn rfl<|d9<|c8<|d8<|c9<|rn rfl ?_
 obtain ⟨a,H⟩|⟨a,H⟩:=oi H
 ·refine kv (g1 (decide_eq_true a)) mv<|kv (g1 (decide_eq_true a)) leq ?_
  refine k0 (o8 (decide_eq_true a)) ?_
  refine rn rfl<|d9<|c8<|f7 ?_
  obtain rfl:=si H
  exact rt hE []
 iterate 2 refine kx (hT (decide_eq_false a)) ?_
 refine k0 (n8 (decide_eq_false a)) ?_
 refine rn rfl<|d9<|c8<|f7 ?_
 obtain rfl:=si H
 exact rt hE []
def J7.l0 : Nat→ByteArray→Int→Int→Y49
 | 0,_,_,_=>none
 | d + 1,c,b,a=>if a < (([(⟨#[61,61]⟩ : ByteArray),(⟨#[33,61]⟩ : ByteArray),(⟨#[60,61]⟩ : ByteArray),(⟨#[62,61]⟩ : ByteArray),(⟨#[60]⟩ : ByteArray),(⟨#[62]⟩ : ByteArray),(⟨#[38]⟩ : ByteArray),(⟨#[58]⟩ : ByteArray),(⟨#[59]⟩ : ByteArray),(⟨#[44]⟩ : ByteArray)] : List ByteArray).length : Int) then if 0≤a then if (wrap64 ((c.size : Int) - b)) ≥ ((M0 ByteArray.empty ([(⟨#[61,61]⟩ : ByteArray),(⟨#[33,61]⟩ : ByteArray),(⟨#[60,61]⟩ : ByteArray),(⟨#[62,61]⟩ : ByteArray),(⟨#[60]⟩ : ByteArray),(⟨#[62]⟩ : ByteArray),(⟨#[38]⟩ : ByteArray),(⟨#[58]⟩ : ByteArray),(⟨#[59]⟩ : ByteArray),(⟨#[44]⟩ : ByteArray)] : List ByteArray) a).size : Int) then (if 0≤b then (if b≤(wrap64 (b + ((M0 ByteArray.empty ([(⟨#[61,61]⟩ : ByteArray),(⟨#[33,61]⟩ : ByteArray),(⟨#[60,61]⟩ : ByteArray),(⟨#[62,61]⟩ : ByteArray),(⟨#[60]⟩ : ByteArray),(⟨#[62]⟩ : ByteArray),(⟨#[38]⟩ : ByteArray),(⟨#[58]⟩ : ByteArray),(⟨#[59]⟩ : ByteArray),(⟨#[44]⟩ : ByteArray)] : List ByteArray) a).size : Int))) then (if (wrap64 (b + ((M0 ByteArray.empty ([(⟨#[61,61]⟩ : ByteArray),(⟨#[33,61]⟩ : ByteArray),(⟨#[60,61]⟩ : ByteArray),(⟨#[62,61]⟩ : ByteArray),(⟨#[60]⟩ : ByteArray),(⟨#[62]⟩ : ByteArray),(⟨#[38]⟩ : ByteArray),(⟨#[58]⟩ : ByteArray),(⟨#[59]⟩ : ByteArray),(⟨#[44]⟩ : ByteArray)] : List ByteArray) a).size : Int)))≤(c.size : Int) then if ((c.extract b.toNat (wrap64 (b + ((M0 ByteArray.empty ([(⟨#[61,61]⟩ : ByteArray),(⟨#[33,61]⟩ : ByteArray),(⟨#[60,61]⟩ : ByteArray),(⟨#[62,61]⟩ : ByteArray),(⟨#[60]⟩ : ByteArray),(⟨#[62]⟩ : ByteArray),(⟨#[38]⟩ : ByteArray),(⟨#[58]⟩ : ByteArray),(⟨#[59]⟩ : ByteArray),(⟨#[44]⟩ : ByteArray)] : List ByteArray) a).size : Int))).toNat).toList == (M0 ByteArray.empty ([(⟨#[61,61]⟩ : ByteArray),(⟨#[33,61]⟩ : ByteArray),(⟨#[60,61]⟩ : ByteArray),(⟨#[62,61]⟩ : ByteArray),(⟨#[60]⟩ : ByteArray),(⟨#[62]⟩ : ByteArray),(⟨#[38]⟩ : ByteArray),(⟨#[58]⟩ : ByteArray),(⟨#[59]⟩ : ByteArray),(⟨#[44]⟩ : ByteArray)] : List ByteArray) a).toList) = true then some (M0 ByteArray.empty ([(⟨#[61,61]⟩ : ByteArray),(⟨#[33,61]⟩ : ByteArray),(⟨#[60,61]⟩ : ByteArray),(⟨#[62,61]⟩ : ByteArray),(⟨#[60]⟩ : ByteArray),(⟨#[62]⟩ : ByteArray),(⟨#[38]⟩ : ByteArray),(⟨#[58]⟩ : ByteArray),(⟨#[59]⟩ : ByteArray),(⟨#[44]⟩ : ByteArray)] : List ByteArray) a) else J7.l0 d c b (wrap64 (a + 1)) else none) else none) else none) else J7.l0 d c b (wrap64 (a + 1)) else none else some ByteArray.empty
def J7.f (k : Nat) (a : ByteArray) (b : Int) : Y49:=J7.l0 k a b 0
theorem J7.ok (H : J7.f k c d = some r) : j7 Tryz.prog 257 [] [.lit (.string c),.lit (.int .i64 d)] [] (.lit (.string r)):=by
 refine u3 33 Tryz.func257 fun E hE=>?_
 rw [J7.f] at H
 refine d8<|c9<|rn rfl<|d9<|c8<|d8<|d8<|c9<|k1 (u7 0 9 1 [.string .empty] (([(⟨#[61,61]⟩ : ByteArray),(⟨#[33,61]⟩ : ByteArray),(⟨#[60,61]⟩ : ByteArray),(⟨#[62,61]⟩ : ByteArray),(⟨#[60]⟩ : ByteArray),(⟨#[62]⟩ : ByteArray),(⟨#[38]⟩ : ByteArray),(⟨#[58]⟩ : ByteArray),(⟨#[59]⟩ : ByteArray),(⟨#[44]⟩ : ByteArray)] : List ByteArray).map eT'))<|k0 (lnR v7) ?_
 refine rn rfl<|d9<|c8<|j4 ?_
 refine lp1 (fun k=>J7.l0 k c d) (fun g=>⟨[(0,.lit (.string c)),(1,.lit (.int .i64 d)),(7,.row 0),(8,.lit (.int .i64 (([(⟨#[61,61]⟩ : ByteArray),(⟨#[33,61]⟩ : ByteArray),(⟨#[60,61]⟩ : ByteArray),(⟨#[62,61]⟩ : ByteArray),(⟨#[60]⟩ : ByteArray),(⟨#[62]⟩ : ByteArray),(⟨#[38]⟩ : ByteArray),(⟨#[58]⟩ : ByteArray),(⟨#[59]⟩ : ByteArray),(⟨#[44]⟩ : ByteArray)] : List ByteArray).length : Int))),(9,.lit (.int .i64 g))],[(0,.row 9 1 (([(⟨#[61,61]⟩ : ByteArray),(⟨#[33,61]⟩ : ByteArray),(⟨#[60,61]⟩ : ByteArray),(⟨#[62,61]⟩ : ByteArray),(⟨#[60]⟩ : ByteArray),(⟨#[62]⟩ : ByteArray),(⟨#[38]⟩ : ByteArray),(⟨#[58]⟩ : ByteArray),(⟨#[59]⟩ : ByteArray),(⟨#[44]⟩ : ByteArray)] : List ByteArray).map eT'))]⟩) H (fun _ h=>aw hE [] h) (fun _ _=>J7.l0.eq_2 ..) fun o g p H q i=>?_
 refine d8<|c9<|rn rfl<|d9<|c8<|d8 ?_
 obtain ⟨b,H⟩|⟨b,H⟩:=oi H
 ·refine iT (decide_eq_true b)<|i9<|c8<|d8<|j4<|d8<|c9 ?_
  obtain ⟨j,H⟩:=i8 H
  refine k0 (iR j b)<|k0 (qL j b) ?_
  refine rn rfl<|d9<|c8<|d8<|c9<|rn rfl ?_
  obtain ⟨a,H⟩|⟨a,H⟩:=oi H
  ·refine kv (g1 (decide_eq_true a)) mv<|kv (g1 (decide_eq_true a)) mv<|kv (g1 (decide_eq_true a)) mv<|kv (g1 (decide_eq_true a)) mv<|kv (g1 (decide_eq_true a)) lnT<|kv (g1 (decide_eq_true a)) aA4 ?_
   obtain ⟨l,H⟩:=i8 H
   obtain ⟨m,H⟩:=i8 H
   obtain ⟨n,H⟩:=i8 H
   refine kv (g1 (decide_eq_true a)) (bw9 l m n)<|kv (g1 (decide_eq_true a)) mv<|kv (g1 (decide_eq_true a)) seq ?_
   refine k0 (o8 (decide_eq_true a))<|d9<|c8 ?_
   obtain ⟨e,H⟩|⟨e,H⟩:=oi H
   ·refine iT e<|d8<|c9<|rn rfl<|d9<|c8<|f7<|l7<|f8<|f8<|l7<|f8 ?_
    obtain rfl:=si H
    exact rt hE []
   refine iF (bF e)<|i9<|j6<|c8<|c9<|rn rfl<|d9<|l6 ?_
   exact aw hE [] (i (Nat.le_refl _) H)
  iterate 9 refine kx (hT (decide_eq_false a)) ?_
  refine k0 (n8 (decide_eq_false a))<|d9<|c8<|iF rfl<|i9<|j6<|c8<|c9 ?_
  refine rn rfl<|d9<|l6 ?_
  exact aw hE [] (i (Nat.le_refl _) H)
 refine iF (decide_eq_false b)<|m6<|j5<|j5<|n7 rfl<|c8<|d8<|c9<|rn rfl<|d9<|c8<|f7 ?_
 obtain rfl:=si H
 exact rt hE []
def F1.l0 : Nat→ByteArray→Int→Y55
 | 0,_,_=>none
 | c + 1,b,a=>if a < (b.size : Int) then (if 0≤a then ((U9.f (bt b a)).bind fun d=>if d = true then F1.l0 c b (wrap64 (a + 1)) else some a) else none) else some a
def F1.f (k : Nat) (a : ByteArray) (b : Int) : Y55:=F1.l0 k a b
theorem F1.ok (H : F1.f k b e = some r) : j7 Tryz.prog 255 [] [.lit (.string b),.lit (.int .i64 e),.fn 254 []] [] (.lit (.int .i64 r)):=by
 refine u3 21 Tryz.func255 fun E hE=>?_
 rw [F1.f] at H
 refine d8<|c9<|rn rfl<|d9<|c8<|d8<|j4 ?_
 refine lp1 (fun k=>F1.l0 k b) (fun d=>⟨[(0,.lit (.string b)),(1,.lit (.int .i64 d)),(2,.fn 254 [])],[]⟩) H (fun _ h=>aw hE [] h) (fun _ _=>F1.l0.eq_2 ..) fun l d m H n g=>?_
 refine d8<|d8<|c9<|rn rfl ?_
 obtain ⟨a,H⟩|⟨a,H⟩:=oi H
 ·refine kv (g1 (decide_eq_true a)) mv<|kv (g1 (decide_eq_true a)) mv<|kv (g1 (decide_eq_true a)) mv ?_
  obtain ⟨i,H⟩:=i8 H
  refine kv (g1 (decide_eq_true a)) (ixT i a) ?_
  obtain ⟨o,j,H⟩:=f6 H
  refine N5 (g1 (decide_eq_true a)) (cl (U9.ok j) []) ?_
  refine k0 (o8 (decide_eq_true a))<|d9<|c8 ?_
  obtain ⟨c,H⟩|⟨c,H⟩:=oi H
  ·refine iT c<|i9<|c8<|j4<|c9<|rn rfl<|d9<|j6<|l6 ?_
   exact aw hE [] (g (Nat.le_refl _) H)
  refine iF (bF c)<|m6<|j5<|j5<|n7 rfl<|c8<|d8<|c9<|rn rfl<|d9<|c8<|f7 ?_
  obtain rfl:=si H
  exact rt hE []
 iterate 5 refine kx (hT (decide_eq_false a)) ?_
 refine k0 (n8 (decide_eq_false a))<|d9<|c8<|iF rfl<|m6<|j5<|j5<|n7 rfl<|c8<|d8<|c9 ?_
 refine rn rfl<|d9<|c8<|f7 ?_
 obtain rfl:=si H
 exact rt hE []
def F6.l0 : Nat→ByteArray→Int→Y55
 | 0,_,_=>none
 | c + 1,b,a=>if a < (b.size : Int) then (if 0≤a then ((U8.f (bt b a)).bind fun d=>if d = true then F6.l0 c b (wrap64 (a + 1)) else some a) else none) else some a
def F6.f (k : Nat) (a : ByteArray) (b : Int) : Y55:=F6.l0 k a b
theorem F6.ok (H : F6.f k b e = some r) : j7 Tryz.prog 255 [] [.lit (.string b),.lit (.int .i64 e),.fn 256 []] [] (.lit (.int .i64 r)):=by
 refine u3 21 Tryz.func255 fun E hE=>?_
 rw [F6.f] at H
 refine d8<|c9<|rn rfl<|d9<|c8<|d8<|j4 ?_
 refine lp1 (fun k=>F6.l0 k b) (fun d=>⟨[(0,.lit (.string b)),(1,.lit (.int .i64 d)),(2,.fn 256 [])],[]⟩) H (fun _ h=>aw hE [] h) (fun _ _=>F6.l0.eq_2 ..) fun l d m H n g=>?_
 refine d8<|d8<|c9<|rn rfl ?_
 obtain ⟨a,H⟩|⟨a,H⟩:=oi H
 ·refine kv (g1 (decide_eq_true a)) mv<|kv (g1 (decide_eq_true a)) mv<|kv (g1 (decide_eq_true a)) mv ?_
  obtain ⟨i,H⟩:=i8 H
  refine kv (g1 (decide_eq_true a)) (ixT i a) ?_
  obtain ⟨o,j,H⟩:=f6 H
  refine N5 (g1 (decide_eq_true a)) (cl (U8.ok j) []) ?_
  refine k0 (o8 (decide_eq_true a))<|d9<|c8 ?_
  obtain ⟨c,H⟩|⟨c,H⟩:=oi H
  ·refine iT c<|i9<|c8<|j4<|c9<|rn rfl<|d9<|j6<|l6 ?_
   exact aw hE [] (g (Nat.le_refl _) H)
  refine iF (bF c)<|m6<|j5<|j5<|n7 rfl<|c8<|d8<|c9<|rn rfl<|d9<|c8<|f7 ?_
  obtain rfl:=si H
  exact rt hE []
 iterate 5 refine kx (hT (decide_eq_false a)) ?_
 refine k0 (n8 (decide_eq_false a))<|d9<|c8<|iF rfl<|m6<|j5<|j5<|n7 rfl<|c8<|d8<|c9 ?_
 refine rn rfl<|d9<|c8<|f7 ?_
 obtain rfl:=si H
 exact rt hE []
mutual
def o7.l0 : Nat→ByteArray→(List C1)→Int→Int→Int→Int→Y36
 | 0,_,_,_,_,_,_=>none
 | j + 1,b,c,a,d,k,h=>if h < d then if (wrap64 (d - a))≤10 then if 0≤h then (if h < (b.size : Int) then o7.l0 j b c a d (wrap64 ((wrap64 (10 * k)) + (wrap64 (IntKind.u8.wrap ((bt b h) - 48))))) (wrap64 (h + 1)) else none) else none else o7.j1 j b c a d k else o7.j1 j b c a d k
def o7.j1 : Nat→ByteArray→(List C1)→Int→Int→Int→Y36
 | 0,_,_,_,_,_=>none
 | n + 1,b,c,a,d,l=>if (wrap64 (d - a)) > 10 then some (([] : List C1),false) else if l > 4294967295 then some (([] : List C1),false) else if c.length + ([(⟨2,ByteArray.empty,l⟩ : C1)] : List C1).length < 4398046511104 then o7.l1 n b (c ++ ([(⟨2,ByteArray.empty,l⟩ : C1)] : List C1)) d else none
def o7.j0 : Nat→ByteArray→(List C1)→Int→Bool→Y36
 | 0,_,_,_,_=>none
 | e + 1,b,c,a,o=>if o = true then o7.l1 e b c (wrap64 (a + 1)) else (if 0≤a then ((U9.f (bt b a)).bind fun p=>if p = true then ((F1.f e b a).bind fun g=>if (wrap64 (g - a)) > 12 then some (([] : List C1),false) else if a≤g then (if g≤(b.size : Int) then (if c.length + ([(⟨1,b.extract a.toNat g.toNat,0⟩ : C1)] : List C1).length < 4398046511104 then o7.l1 e b (c ++ ([(⟨1,b.extract a.toNat g.toNat,0⟩ : C1)] : List C1)) g else none) else none) else none) else ((U8.f (bt b a)).bind fun q=>if q = true then ((F6.f e b a).bind fun d=>o7.l0 e b c a d 0 a) else ((J7.f e b a).bind fun i=>if (i.toList == ByteArray.empty.toList) = true then some (([] : List C1),false) else if c.length + ([(⟨3,i,0⟩ : C1)] : List C1).length < 4398046511104 then o7.l1 e b (c ++ ([(⟨3,i,0⟩ : C1)] : List C1)) (wrap64 (a + (i.size : Int))) else none))) else none)
def o7.l1 : Nat→ByteArray→(List C1)→Int→Y36
 | 0,_,_,_=>none
 | m + 1,b,c,a=>if a < (b.size : Int) then if 0≤a then (if (bt b a) = 32 then o7.j0 m b c a true else o7.j0 m b c a ((bt b a) == 10)) else none else some (c,true)
end
def o7.f (k : Nat) (a : ByteArray) : Y36:=if (a.size : Int) > 1200 then some (([] : List C1),false) else o7.l1 k a ([] : List C1) 0
theorem o7.ok (H : o7.f k a = some r) : j7 Tryz.prog 206 [] [.lit (.string a)] [(0,.row 266 3 (r.1.map J9))] (.tup [.row 0,.lit (.bool r.2)]):=by
 refine u3 112 Tryz.func206 fun E hE=>?_
 rw [o7.f] at H
 refine d8<|c9<|rn rfl<|d9<|c8<|d8<|d8<|c9<|rn rfl<|d9<|c8 ?_
 obtain ⟨n,H⟩|⟨n,H⟩:=oi H
 ·refine iT (decide_eq_true n)<|d8<|c9<|k1 (u7 0 266 3 [.int .i64 0,.string .empty,.int .i64 0] (([] : List C1).map J9)) ?_
  refine rn rfl<|d9<|c8<|f7<|f8 ?_
  obtain rfl:=si H
  exact rt hE []
 refine iF (decide_eq_false n)<|i9<|c8<|d8<|c9<|k1 (u7 1 266 3 [.int .i64 0,.string .empty,.int .i64 0] (([] : List C1).map J9)) ?_
 refine rn rfl<|d9<|c8<|d8<|d8<|c9<|rn rfl<|d9<|c8<|j4 ?_
 refine V7 (fun k=>o7.l1 k a) (fun b c=>⟨[(0,.lit (.string a)),(4,.row 1),(5,.lit (.int .i64 c))],[(1,.row 266 3 (b.map J9))]⟩) H (fun _ h=>aw hE [] h) (fun _ _ _=>o7.l1.eq_2 ..) fun I b c a0 H a1 j=>?_
 refine d8<|d8<|c9<|rn rfl<|d9<|c8 ?_
 obtain ⟨g,H⟩|⟨g,H⟩:=oi H
 ·refine iT (decide_eq_true g)<|i9<|c8<|j4<|d8<|c9<|rn rfl<|d9<|c8<|d8<|j4 ?_
  refine H0 (J:=Jc1 E 112 r I (fun k=>o7.j0 k a b c) (fun x=>⟨[(0,.lit (.string a)),(4,.row 1),(5,.lit (.int .i64 c)),(6,.lit (.int .i64 (wrap64 (c + 1)))),(36,.lit (.bool x))],[(1,.row 266 3 (b.map J9))]⟩)) ?_ ?_
  ·intro K y
   refine c9<|rn rfl ?_
   obtain ⟨z,H⟩:=i8 H
   refine k0 (ixT z g) ?_
   refine rn rfl ?_
   obtain ⟨d,H⟩|⟨d,H⟩:=oi H
   ·iterate 4 refine kx (hF (eT d)) ?_
    refine k0 (o8 (eT d)) ?_
    refine rn rfl<|d9<|l6 ?_
    exact aw hE [] (y.u (Nat.le_refl _) H)
   refine kv (g1 (eF d)) mv<|kv (g1 (eF d)) mv<|kv (g1 (eF d)) (ixT z g)<|kv (g1 (eF d)) eql ?_
   refine k0 (n8 (eF d)) ?_
   refine rn rfl<|d9<|l6 ?_
   exact aw hE [] (y.u (Nat.le_refl _) H)
  refine jc1 (fun _ _=>o7.j0.eq_2 ..) fun L x a2 H=>?_
  obtain ⟨o,H⟩|⟨o,H⟩:=oi H
  ·refine iT o<|i9<|j6<|c8<|c9<|rn rfl<|d9<|j6<|l6 ?_
   exact aw hE [] (j (by omega) H)
  refine iF (bF o)<|d8<|c9<|rn rfl ?_
  obtain ⟨p,H⟩:=i8 H
  refine k0 (ixT p g) ?_
  obtain ⟨a3,M,H⟩:=f6 H
  refine kC (cl (U9.ok M) []) ?_
  refine rn rfl<|d9<|c8 ?_
  obtain ⟨q,H⟩|⟨q,H⟩:=oi H
  ·refine iT q<|d8<|c9<|rn rfl ?_
   obtain ⟨B,N,H⟩:=f6 H
   refine kC (cl (F1.ok N) []) ?_
   refine rn rfl<|d9<|c8<|d8<|d8<|c9<|rn rfl<|d9<|c8 ?_
   obtain ⟨s,H⟩|⟨s,H⟩:=oi H
   ·refine iT (decide_eq_true s)<|d8<|c9<|k1 (u7 2 266 3 [.int .i64 0,.string .empty,.int .i64 0] (([] : List C1).map J9)) ?_
    refine rn rfl<|d9<|c8<|f7<|f8<|l7<|f8<|l7<|f8<|l7<|f8 ?_
    obtain rfl:=si H
    exact rt hE [(0,2)]
   refine iF (decide_eq_false s)<|i9<|c8<|c9<|rn rfl ?_
   obtain ⟨O,H⟩:=i8 H
   obtain ⟨P,H⟩:=i8 H
   refine k0 (bw9 p O P) ?_
   refine rn rfl<|k1 (u7 3 266 3 [.int .i64 0,.string .empty,.int .i64 0] (([(⟨1,a.extract c.toNat B.toNat,0⟩ : C1)] : List C1).map J9)) ?_
   obtain ⟨Q,H⟩:=i8 H
   refine k3 (D7 4 266 3 32 [.int .i64 0,.string .empty,.int .i64 0] ((b ++ ([(⟨1,a.extract c.toNat B.toNat,0⟩ : C1)] : List C1)).map J9) (.row rfl) (D8 Q rfl) z7) ?_
   refine rn rfl<|d9<|j6<|c8<|c9<|rn rfl<|d9<|j6<|l6 ?_
   exact aw hE [(1,4)] (j (by omega) H)
  refine iF (bF q)<|d8<|c9<|rn rfl<|k0 (ixT p g) ?_
  obtain ⟨a4,R,H⟩:=f6 H
  refine kC (cl (U8.ok R) []) ?_
  refine rn rfl<|d9<|c8 ?_
  obtain ⟨t,H⟩|⟨t,H⟩:=oi H
  ·refine iT t<|d8<|c9<|rn rfl ?_
   obtain ⟨l,T,H⟩:=f6 H
   refine kC (cl (F6.ok T) []) ?_
   refine rn rfl<|d9<|c8<|d8<|c9<|rn rfl<|d9<|c8 ?_
   refine H0 (J:=Jc1 E 112 r L (fun k=>o7.j1 k a b c l) (fun m=>⟨[(0,.lit (.string a)),(4,.row 1),(5,.lit (.int .i64 c)),(6,.lit (.int .i64 l)),(7,.lit (.int .i64 m))],[(1,.row 266 3 (b.map J9))]⟩)) ?_ ?_
   ·intro K C
    refine d8<|c9<|rn rfl<|d9<|c8<|j4 ?_
    refine V7 (fun k=>o7.l0 k a b c l) (fun D F=>⟨[(0,.lit (.string a)),(4,.row 1),(5,.lit (.int .i64 c)),(6,.lit (.int .i64 l)),(7,.lit (.int .i64 D)),(8,.lit (.int .i64 F))],[(1,.row 266 3 (b.map J9))]⟩) H (fun _ h=>aw hE [] h) (fun _ _ _=>o7.l0.eq_2 ..) fun a5 D F a6 H a7 U=>?_
    refine d8<|d8<|c9<|rn rfl ?_
    obtain ⟨e,H⟩|⟨e,H⟩:=oi H
    ·refine kv (g1 (decide_eq_true e)) mv<|kv (g1 (decide_eq_true e)) mv<|kv (g1 (decide_eq_true e)) aQ7<|kv (g1 (decide_eq_true e)) leq ?_
     refine k0 (o8 (decide_eq_true e))<|d9<|c8 ?_
     obtain ⟨u,H⟩|⟨u,H⟩:=oi H
     ·refine iT (decide_eq_true u)<|i9<|c8<|d8<|j4<|c9<|rn rfl ?_
      obtain ⟨V,H⟩:=i8 H
      obtain ⟨W,H⟩:=i8 H
      refine k0 (ixT V W) ?_
      refine rn rfl<|d9<|j6<|c8<|c9<|rn rfl<|d9<|l6 ?_
      exact aw hE [] (U (Nat.le_refl _) H)
     refine iF (decide_eq_false u)<|m6<|j5<|j5<|n7 rfl<|l6 ?_
     exact aw hE [] (C.u (by omega) H)
    iterate 4 refine kx (hT (decide_eq_false e)) ?_
    refine k0 (n8 (decide_eq_false e))<|d9<|c8<|iF rfl<|m6<|j5<|j5<|n7 rfl<|l6 ?_
    exact aw hE [] (C.u (by omega) H)
   refine jc1 (fun _ _=>o7.j1.eq_2 ..) fun a8 m a9 H=>?_
   refine d8<|d8<|c9<|rn rfl ?_
   obtain ⟨i,H⟩|⟨i,H⟩:=oi H
   ·iterate 2 refine kx (hF (decide_eq_true i)) ?_
    refine k0 (o8 (decide_eq_true i))<|d9<|c8<|iT rfl<|d8<|c9<|k1 (u7 5 266 3 [.int .i64 0,.string .empty,.int .i64 0] (([] : List C1).map J9)) ?_
    refine rn rfl<|d9<|c8<|f7<|f8<|l7<|f8<|l7<|f8<|l7<|f8 ?_
    obtain rfl:=si H
    exact rt hE [(0,5)]
   refine kv (g1 (decide_eq_false i)) mv<|kv (g1 (decide_eq_false i)) gtr ?_
   refine k0 (n8 (decide_eq_false i))<|d9<|c8 ?_
   obtain ⟨v,H⟩|⟨v,H⟩:=oi H
   ·refine iT (decide_eq_true v)<|d8<|c9<|k1 (u7 6 266 3 [.int .i64 0,.string .empty,.int .i64 0] (([] : List C1).map J9)) ?_
    refine rn rfl<|d9<|c8<|f7<|f8<|l7<|f8<|l7<|f8<|l7<|f8 ?_
    obtain rfl:=si H
    exact rt hE [(0,6)]
   refine iF (decide_eq_false v)<|i9<|c8<|c9<|rn rfl<|k1 (u7 7 266 3 [.int .i64 0,.string .empty,.int .i64 0] (([(⟨2,ByteArray.empty,m⟩ : C1)] : List C1).map J9)) ?_
   obtain ⟨X,H⟩:=i8 H
   refine k3 (D7 8 266 3 32 [.int .i64 0,.string .empty,.int .i64 0] ((b ++ ([(⟨2,ByteArray.empty,m⟩ : C1)] : List C1)).map J9) (.row rfl) (D8 X rfl) z7) ?_
   refine rn rfl<|d9<|j6<|c8<|c9<|rn rfl<|d9<|j6<|l6 ?_
   exact aw hE [(1,8)] (j (by omega) H)
  refine iF (bF t)<|d8<|c9<|rn rfl ?_
  obtain ⟨G,Y,H⟩:=f6 H
  refine kC (cl (J7.ok Y) []) ?_
  refine rn rfl<|d9<|c8<|d8<|d8<|c9<|rn rfl<|d9<|c8 ?_
  obtain ⟨w,H⟩|⟨w,H⟩:=oi H
  ·refine iT w<|d8<|c9<|k1 (u7 9 266 3 [.int .i64 0,.string .empty,.int .i64 0] (([] : List C1).map J9)) ?_
   refine rn rfl<|d9<|c8<|f7<|f8<|l7<|f8<|l7<|f8<|l7<|f8 ?_
   obtain rfl:=si H
   exact rt hE [(0,9)]
  refine iF (bF w)<|i9<|c8<|d8<|c9<|rn rfl<|d9<|c8<|c9<|rn rfl<|k1 (u7 10 266 3 [.int .i64 0,.string .empty,.int .i64 0] (([(⟨3,G,0⟩ : C1)] : List C1).map J9)) ?_
  obtain ⟨Z,H⟩:=i8 H
  refine k3 (D7 11 266 3 32 [.int .i64 0,.string .empty,.int .i64 0] ((b ++ ([(⟨3,G,0⟩ : C1)] : List C1)).map J9) (.row rfl) (D8 Z rfl) z7) ?_
  refine rn rfl<|d9<|j6<|c8<|c9<|rn rfl<|d9<|j6<|l6 ?_
  exact aw hE [(1,11)] (j (by omega) H)
 refine iF (decide_eq_false g)<|m6<|j5<|j5<|n7 rfl<|c8<|d8<|c9<|rn rfl<|d9<|c8<|f7 ?_
 obtain rfl:=si H
 exact rt hE [(0,1)]
def S3.f (b : List C1) (a : Int) (c : Bool) (d : ByteArray) : Y24:=if a < (b.length : Int) then (if 0≤a then (if ((am2 b a).f0) = 2 then some (false,b,a,c) else some (((am2 b a).f1).toList == d.toList,b,a,c)) else none) else some (false,b,a,c)
theorem S3.ok (H : S3.f d e g h = some r) : j7 Tryz.prog 314 [(0,.box 227 [.row 1,.lit (.int .i64 e),.lit (.bool g)]),(1,.row 266 3 (d.map J9))] [.box 0 0,.lit (.string h)] [(0,.box 227 [.row 1,.lit (.int .i64 r.2.2.1),.lit (.bool r.2.2.2)]),(1,.row 266 3 (r.2.1.map J9))] (.lit (.bool r.1)):=by
 refine u3 44 Tryz.func314 fun E hE=>?_
 rw [S3.f] at H
 refine d8<|c9<|rn rfl<|d9<|c8<|d8<|c9<|rn rfl<|k0 (lnR v7) ?_
 refine rn rfl ?_
 obtain ⟨a,H⟩|⟨a,H⟩:=oi H
 ·refine kv (g1 (decide_eq_true a)) mv<|kv (g1 (decide_eq_true a)) an3<|kv (g1 (decide_eq_true a)) (y8 0 0)<|kv (g1 (decide_eq_true a)) B5<|kv (g1 (decide_eq_true a)) mv<|kv (g1 (decide_eq_true a)) an3<|kv (g1 (decide_eq_true a)) (y8 1 1)<|kv (g1 (decide_eq_true a)) B5 ?_
  obtain ⟨c,H⟩:=i8 H
  refine kv (g1 (decide_eq_true a)) (iR c a)<|kv (g1 (decide_eq_true a)) (faE 0 0)<|kv (g1 (decide_eq_true a)) (qL c a)<|kv (g1 (decide_eq_true a)) neq ?_
  refine k0 (o8 (decide_eq_true a)) ?_
  refine rn rfl ?_
  obtain ⟨b,H⟩|⟨b,H⟩:=oi H
  ·iterate 13 refine kx (hT (eM b)) ?_
   refine k0 (n8 (eM b)) ?_
   refine rn rfl<|ed<|c8<|f7 ?_
   obtain rfl:=si H
   exact rt hE []
  refine kv (g1 (eN b)) mv<|kv (g1 (eN b)) an3<|kv (g1 (eN b)) (y8 0 0)<|kv (g1 (eN b)) B5<|kv (g1 (eN b)) mv<|kv (g1 (eN b)) an3<|kv (g1 (eN b)) (y8 1 1)<|kv (g1 (eN b)) B5<|kv (g1 (eN b)) (iR c a)<|kv (g1 (eN b)) (faE 1 1)<|kv (g1 (eN b)) (qL c a)<|kv (g1 (eN b)) mv<|kv (g1 (eN b)) seq ?_
  refine k0 (o8 (eN b)) ?_
  refine rn rfl<|ed<|c8<|f7 ?_
  obtain rfl:=si H
  exact rt hE []
 iterate 12 refine kx (hT (decide_eq_false a)) ?_
 refine k0 (n8 (decide_eq_false a)) ?_
 refine rn rfl ?_
 iterate 13 refine kx (hT rfl) ?_
 refine k0 (n8 rfl) ?_
 refine rn rfl<|ed<|c8<|f7 ?_
 obtain rfl:=si H
 exact rt hE []
def A7.f (c : List C1) (d : Int) (b : Bool) (e : ByteArray) : Y24:=if b = true then some (false,c,d,b) else ((S3.f c d b e).bind fun a=>if a.1 = true then some (true,a.2.1,wrap64 (a.2.2.1 + 1),a.2.2.2) else some (false,a.2.1,a.2.2.1,a.2.2.2))
theorem A7.ok (H : A7.f c d e g = some r) : j7 Tryz.prog 258 [(0,.box 227 [.row 1,.lit (.int .i64 d),.lit (.bool e)]),(1,.row 266 3 (c.map J9))] [.box 0 0,.lit (.string g)] [(0,.box 227 [.row 1,.lit (.int .i64 r.2.2.1),.lit (.bool r.2.2.2)]),(1,.row 266 3 (r.2.1.map J9))] (.lit (.bool r.1)):=by
 refine u3 22 Tryz.func258 fun E hE=>?_
 rw [A7.f] at H
 refine d8<|c9<|rn rfl<|d9<|c8<|d8<|d8<|c9<|rn rfl ?_
 obtain ⟨a,H⟩|⟨a,H⟩:=oi H
 ·iterate 4 refine kx (hF a) ?_
  refine k0 (o8 a)<|d9<|c8<|iT rfl<|d8<|c9 ?_
  refine rn rfl<|d9<|c8<|f7<|f8 ?_
  obtain rfl:=si H
  exact rt hE []
 refine kv (g1 (bF a)) mv<|kv (g1 (bF a)) mv ?_
 obtain ⟨i,h,H⟩:=f6 H
 refine N5 (g1 (bF a)) (cl (S3.ok h) [0,1])<|kv (g1 (bF a)) V4 ?_
 refine k0 (n8 (bF a))<|d9<|c8 ?_
 obtain ⟨b,H⟩|⟨b,H⟩:=oi H
 ·refine iF (nF b)<|i9<|c8<|d8<|c9<|rn rfl<|d9<|c8<|d8<|c9<|rn rfl<|d9<|c8<|f7 ?_
  obtain rfl:=si H
  exact rt hE []
 refine iT (nT (bF b))<|d8<|c9<|rn rfl<|d9<|c8<|f7<|f8 ?_
 obtain rfl:=si H
 exact rt hE []
def y6.f (b : List C1) (c : Int) (d : Bool) (e : ByteArray) : Option ((List C1)×Int×Bool):=(A7.f b c d e).bind fun a=>if a.1 = true then some (a.2.1,a.2.2.1,a.2.2.2) else some (a.2.1,a.2.2.1,true)
theorem y6.ok (H : y6.f b c d e = some r) : j7 Tryz.prog 207 [(0,.box 227 [.row 1,.lit (.int .i64 c),.lit (.bool d)]),(1,.row 266 3 (b.map J9))] [.box 0 0,.lit (.string e)] [(0,.box 227 [.row 1,.lit (.int .i64 r.2.1),.lit (.bool r.2.2)]),(1,.row 266 3 (r.1.map J9))] (.tup []):=by
 refine u3 11 Tryz.func207 fun E hE=>?_
 rw [y6.f] at H
 refine d8<|c9<|rn rfl ?_
 obtain ⟨h,g,H⟩:=f6 H
 refine kC (cl (A7.ok g) [0,1]) ?_
 refine rn rfl<|d9<|c8 ?_
 obtain ⟨a,H⟩|⟨a,H⟩:=oi H
 ·refine iF (nF a)<|i9 ?_
  obtain rfl:=si H
  refine af3 ?_
  exact rt hE []
 refine iT (nT (bF a))<|c9<|rn rfl<|d9 ?_
 obtain rfl:=si H
 refine af3 ?_
 exact rt hE []
end Go.Proofs.YtahmbcgolnplgaaGreat.PFnNoHoles
