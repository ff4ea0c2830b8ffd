import Derived.Test.YtahmbcgolnplgaaGreatPFnNoHolesx5
set_option linter.unusedVariables false
set_option linter.unusedSimpArgs false
set_option autoImplicit true
set_option relaxedAutoImplicit true
set_option maxRecDepth 100000
set_option maxHeartbeats 4000000
namespace Go.Proofs.YtahmbcgolnplgaaGreat.PFnNoHoles
open Go Go.RowKit Go.Proofs.YtahmbcgolnplgaaGreatA
mutual
def x8.l0 : Nat→(List j3)→(List Int)→Int→Y47
 | 0,_,_,_=>none
 | j + 1,a,h,d=>if d < (a.length : Int) then if 0≤d then (H4.f ((l5 a d).f0) ((l5 a d).f1.f0) ((l5 a d).f1.f1) ((l5 a d).f1.f2) ((l5 a d).f1.f3) ((l5 a d).f2) ((l5 a d).f3)).bind fun k=>if k = true then if h.length + ([0] : List Int).length < 17592186044416 then x8.l0 j a (h ++ ([0] : List Int)) (wrap64 (d + 1)) else none else if h.length + ([1] : List Int).length < 17592186044416 then x8.l0 j a (h ++ ([1] : List Int)) (wrap64 (d + 1)) else none else none else x8.l2 j a h true
def x8.l1 : Nat→(List j3)→(List Int)→Bool→(List Int)→Int→Y47
 | 0,_,_,_,_,_=>none
 | e + 1,a,c,i,g,b=>if b < (a.length : Int) then if 0≤b then (y7.f ((l5 a b).f1.f0) ((l5 a b).f1.f1) ((l5 a b).f1.f2) ((l5 a b).f1.f3)).bind fun l=>(if l = true then (if b < (c.length : Int) then if (rd c b) = 3 then x8.l1 e a c i g (wrap64 (b + 1)) else (A5.f e a c b ((l5 a b).f2)).bind fun m=>(if m > 15 then if b < (g.length : Int) then x8.l1 e a c true (g.set b.toNat 3) (wrap64 (b + 1)) else none else ((A5.f e a c b ((l5 a b).f3)).bind fun n=>if n > 15 then (if b < (g.length : Int) then x8.l1 e a c true (g.set b.toNat 3) (wrap64 (b + 1)) else none) else x8.l1 e a c i g (wrap64 (b + 1)))) else none) else x8.l1 e a c i g (wrap64 (b + 1))) else none else x8.l2 e a g i
def x8.l2 : Nat→(List j3)→(List Int)→Bool→Y47
 | 0,_,_,_=>none
 | o + 1,a,c,p=>if p = true then if ([] : List Int).length + c.length < 17592186044416 then x8.l1 o a c false (([] : List Int) ++ c) 0 else none else some c
end
def x8.f (k : Nat) (a : List j3) : Y47:=(J2.f k a).bind fun b=>if b = true then x8.l0 k a ([] : List Int) 0 else some ([] : List Int)
theorem x8.ok (H : x8.f k a = some r) : j7 Tryz.prog 272 [] [.sl .o 7 (a.map C6)] [(0,.row 3 1 (r.map (eI .i64)))] (.row 0):=by
 refine u3 73 Tryz.func272 fun E hE=>?_
 rw [x8.f] at H
 refine d8<|c9<|rn rfl<|d9<|c8<|d8<|c9<|k1 (u7 0 3 1 [.int .i64 0] (([] : List Int).map (eI .i64))) ?_
 refine rn rfl<|d9<|c8<|d8<|d8<|c9<|rn rfl ?_
 obtain ⟨P,D,H⟩:=f6 H
 refine kC (cl (J2.ok D) []) ?_
 refine rn rfl<|d9<|c8 ?_
 obtain ⟨o,H⟩|⟨o,H⟩:=oi H
 ·refine iF (nF o)<|i9<|c8<|d8<|d8<|c9<|rn rfl<|k0 (G3 v7) ?_
  refine rn rfl<|d9<|c8<|j4 ?_
  refine V7 (fun k=>x8.l0 k a) (fun i u=>⟨[(0,.sl .o 7 (a.map C6)),(3,.row 0),(16,.sl .o 7 (a.map C6)),(17,.lit (.int .i64 (a.length : Int))),(18,.lit (.int .i64 u))],[(0,.row 3 1 (i.map (eI .i64)))]⟩) H (fun _ h=>aw hE [] h) (fun _ _ _=>x8.l0.eq_2 ..) fun Q i u R H T v=>?_
  refine d8<|c9<|rn rfl<|d9<|c8<|d8 ?_
  obtain ⟨j,H⟩|⟨j,H⟩:=oi H
  ·refine iT (decide_eq_true j)<|i9<|c8<|d8<|j4<|d8<|c9 ?_
   obtain ⟨F,H⟩:=i8 H
   refine k0 (iS F j) ?_
   refine rn rfl<|k1 (al 1) ?_
   refine rn rfl<|d9<|c8<|d8<|c9<|rn rfl<|d9<|c8<|d8<|d8<|c9<|rn rfl ?_
   obtain ⟨U,G,H⟩:=f6 H
   refine kC (cl (H4.ok G) [])<|d9<|c8 ?_
   obtain ⟨p,H⟩|⟨p,H⟩:=oi H
   ·refine iT p<|c9<|rn rfl<|d9<|c8<|c9<|rn rfl<|k1 (u7 2 3 1 [.int .i64 0] (([0] : List Int).map (eI .i64))) ?_
    obtain ⟨I,H⟩:=i8 H
    refine k3 (D7 3 3 1 8 [.int .i64 0] ((i ++ ([0] : List Int)).map (eI .i64)) (.row rfl) (D8 I rfl) z7) ?_
    refine rn rfl<|d9<|j6<|c8<|c9<|rn rfl<|d9<|l6 ?_
    exact aw hE [(0,3)] (v (Nat.le_refl _) H)
   refine iF (bF p)<|i9<|c8<|c9<|rn rfl<|k1 (u7 4 3 1 [.int .i64 0] (([1] : List Int).map (eI .i64))) ?_
   obtain ⟨J,H⟩:=i8 H
   refine k3 (D7 5 3 1 8 [.int .i64 0] ((i ++ ([1] : List Int)).map (eI .i64)) (.row rfl) (D8 J rfl) z7) ?_
   refine rn rfl<|d9<|j6<|c8<|c9<|rn rfl<|d9<|l6 ?_
   exact aw hE [(0,5)] (v (Nat.le_refl _) H)
  refine iF (decide_eq_false j)<|m6<|j5<|j5<|n7 rfl<|c8<|d8<|d8<|c9<|rn rfl<|d9<|c8<|j4 ?_
  refine V7 (fun k=>x8.l2 k a) (fun e w=>⟨[(0,.sl .o 7 (a.map C6)),(3,.row 0),(7,.lit (.bool w))],[(0,.row 3 1 (e.map (eI .i64)))]⟩) H (fun _ h=>aw hE [] h) (fun _ _ _=>x8.l2.eq_2 ..) fun V e w W H X K=>?_
  refine d8<|d8<|c9<|rn rfl<|d9<|c8 ?_
  obtain ⟨q,H⟩|⟨q,H⟩:=oi H
  ·refine iT q<|i9<|c8<|j4<|d8<|c9<|rn rfl<|d9<|c8<|d8<|c9<|k1 (u7 6 3 1 [.int .i64 0] (([] : List Int).map (eI .i64))) ?_
   refine rn rfl ?_
   obtain ⟨L,H⟩:=i8 H
   refine k3 (D7 7 3 1 8 [.int .i64 0] ((([] : List Int) ++ e).map (eI .i64)) (.row rfl) (D8 L rfl) z7) ?_
   refine rn rfl<|d9<|c8<|d8<|d8<|c9<|rn rfl<|k0 (G3 v7) ?_
   refine rn rfl<|d9<|c8<|j4 ?_
   refine lp3 (fun k=>x8.l1 k a e) (fun x l m=>⟨[(0,.sl .o 7 (a.map C6)),(3,.row 0),(7,.lit (.bool x)),(8,.row 7),(33,.sl .o 7 (a.map C6)),(34,.lit (.int .i64 (a.length : Int))),(35,.lit (.int .i64 m))],[(0,.row 3 1 (e.map (eI .i64))),(7,.row 3 1 (l.map (eI .i64)))]⟩) H (fun _ h=>aw hE [] h) (fun _ _ _ _=>x8.l1.eq_2 ..) fun Y x l m Z H a0 g=>?_
   refine d8<|c9<|rn rfl<|d9<|c8<|d8 ?_
   obtain ⟨n,H⟩|⟨n,H⟩:=oi H
   ·refine iT (decide_eq_true n)<|i9<|c8<|d8<|j4<|d8<|c9<|rn rfl ?_
    obtain ⟨d,H⟩:=i8 H
    refine k0 (iS d n) ?_
    refine rn rfl<|k1 (al 8) ?_
    refine rn rfl<|d9<|c8<|d8<|d8<|c9<|rn rfl ?_
    obtain ⟨a1,M,H⟩:=f6 H
    refine kC (cl (y7.ok M) []) ?_
    refine rn rfl ?_
    obtain ⟨c,H⟩|⟨c,H⟩:=oi H
    ·refine kv (g1 (nF c)) mv<|kv (g1 (nF c)) mv ?_
     obtain ⟨y,H⟩:=i8 H
     refine kv (g1 (nF c)) (iR d y)<|kv (g1 (nF c)) (qL d y)<|kv (g1 (nF c)) eql ?_
     refine k0 (n8 (nF c))<|d9<|c8 ?_
     obtain ⟨s,H⟩|⟨s,H⟩:=oi H
     ·refine iT (eT s)<|m6<|j5<|n7 rfl<|c8<|c9<|rn rfl<|d9<|l6 ?_
      exact aw hE [] (g (Nat.le_refl _) H)
     refine iF (eF s)<|i9<|c8<|d8<|c9<|rn rfl ?_
     obtain ⟨a2,N,H⟩:=f6 H
     refine kC (cl (A5.ok N) []) ?_
     refine rn rfl ?_
     obtain ⟨b,H⟩|⟨b,H⟩:=oi H
     ·iterate 7 refine kx (hF (decide_eq_true b)) ?_
      refine k0 (o8 (decide_eq_true b))<|d9<|c8<|iT rfl<|d8<|c9 ?_
      refine rn rfl ?_
      obtain ⟨B,H⟩:=i8 H
      refine k0 (iR d B)<|k2 (stE 1 (eI .i64 3) ((l.set m.toNat 3).map (eI .i64)) (ab9 (z:=(0 : Int)) d B) af4)<|d9<|c8<|c9 ?_
      refine rn rfl<|d9<|j6<|c8<|c9<|rn rfl<|d9<|l6 ?_
      exact aw hE [] (g (Nat.le_refl _) H)
     refine kv (g1 (decide_eq_false b)) mv<|kv (g1 (decide_eq_false b)) mv<|kv (g1 (decide_eq_false b)) mv<|kv (g1 (decide_eq_false b)) (y8 6 6)<|kv (g1 (decide_eq_false b)) B5 ?_
     obtain ⟨a3,O,H⟩:=f6 H
     refine N5 (g1 (decide_eq_false b)) (cl (A5.ok O) [])<|kv (g1 (decide_eq_false b)) gtr ?_
     refine k0 (n8 (decide_eq_false b))<|d9<|c8 ?_
     obtain ⟨t,H⟩|⟨t,H⟩:=oi H
     ·refine iT (decide_eq_true t)<|d8<|c9<|rn rfl ?_
      obtain ⟨C,H⟩:=i8 H
      refine k0 (iR d C)<|k2 (stE 1 (eI .i64 3) ((l.set m.toNat 3).map (eI .i64)) (ab9 (z:=(0 : Int)) d C) af4)<|d9<|c8<|c9 ?_
      refine rn rfl<|d9<|j6<|c8<|c9<|rn rfl<|d9<|l6 ?_
      exact aw hE [] (g (Nat.le_refl _) H)
     refine iF (decide_eq_false t)<|i9<|j6<|c8<|c9<|rn rfl<|d9<|l6 ?_
     exact aw hE [] (g (Nat.le_refl _) H)
    iterate 5 refine kx (hF (nT (bF c))) ?_
    refine k0 (o8 (nT (bF c)))<|d9<|c8<|iT rfl<|m6<|j5<|n7 rfl<|c8<|c9 ?_
    refine rn rfl<|d9<|l6 ?_
    exact aw hE [] (g (Nat.le_refl _) H)
   refine iF (decide_eq_false n)<|m6<|j5<|j5<|n7 rfl<|c8<|c9<|rn rfl<|d9<|j6<|l6 ?_
   exact aw hE [(0,7)] (K (by omega) H)
  refine iF (bF q)<|m6<|j5<|j5<|n7 rfl<|c8<|d8<|c9<|rn rfl<|d9<|c8<|f7 ?_
  obtain rfl:=si H
  exact rt hE []
 refine iT (nT (bF o))<|d8<|c9<|rn rfl<|d9<|c8<|f7<|f8 ?_
 obtain rfl:=si H
 exact rt hE []
mutual
def v8.j0 : Nat→(List j3)→((List Int))→(List f9)→Int→Bool→Y37
 | 0,_,_,_,_,_=>none
 | e + 1,b,c,d,a,m=>if m = true then ((A5.f e b c a ((l5 b a).f2)).bind fun h=>(A5.f e b c a ((l5 b a).f3)).bind fun i=>if d.length + ([(⟨(l5 b a).f1.f0,(l5 b a).f1.f1,0,1⟩ : f9),(⟨7,wrap64 (h + 1),0,0⟩ : f9),(⟨7,i,0,0⟩ : f9)] : List f9).length < 4398046511104 then v8.l0 e b c (d ++ ([(⟨(l5 b a).f1.f0,(l5 b a).f1.f1,0,1⟩ : f9),(⟨7,wrap64 (h + 1),0,0⟩ : f9),(⟨7,i,0,0⟩ : f9)] : List f9)) (wrap64 (a + 1)) else none) else ((y7.f ((l5 b a).f1.f0) ((l5 b a).f1.f1) ((l5 b a).f1.f2) ((l5 b a).f1.f3)).bind fun n=>if n = true then ((A5.f e b c a ((l5 b a).f2)).bind fun o=>(A5.f e b c a ((l5 b a).f3)).bind fun p=>v8.j1 e b c d a ((l5 b a).f1.f1) o p) else v8.j1 e b c d a ((l5 b a).f1.f1) ((l5 b a).f1.f2) ((l5 b a).f1.f3))
def v8.j1 : Nat→(List j3)→((List Int))→(List f9)→Int→Int→Int→Int→Y37
 | 0,_,_,_,_,_,_,_=>none
 | q + 1,b,c,d,a,j,k,l=>if d.length + ([(⟨(l5 b a).f1.f0,j,k,l⟩ : f9)] : List f9).length < 4398046511104 then v8.l0 q b c (d ++ ([(⟨(l5 b a).f1.f0,j,k,l⟩ : f9)] : List f9)) (wrap64 (a + 1)) else none
def v8.l0 : Nat→(List j3)→((List Int))→(List f9)→Int→Y37
 | 0,_,_,_,_=>none
 | g + 1,b,c,d,a=>if a < (b.length : Int) then if 0≤a then if (c.length : Int) = 0 then some (([] : List f9),false) else (H4.f ((l5 b a).f0) ((l5 b a).f1.f0) ((l5 b a).f1.f1) ((l5 b a).f1.f2) ((l5 b a).f1.f3) ((l5 b a).f2) ((l5 b a).f3)).bind fun r=>if r = true then v8.l0 g b c d (wrap64 (a + 1)) else if ((l5 b a).f1.f0) = 7 then ((A5.f g b c a ((l5 b a).f2)).bind fun s=>v8.j1 g b c d a s ((l5 b a).f1.f2) ((l5 b a).f1.f3)) else ((y7.f ((l5 b a).f1.f0) ((l5 b a).f1.f1) ((l5 b a).f1.f2) ((l5 b a).f1.f3)).bind fun t=>(if t = true then (if a < (c.length : Int) then v8.j0 g b c d a ((rd c a) == 3) else none) else v8.j0 g b c d a false)) else none else (j8.f (d.length : Int) 1 400).bind fun u=>if u = true then some (d,true) else some (([] : List f9),false)
end
def v8.f (k : Nat) (a : List j3) : Y37:=(x8.f k a).bind fun b=>v8.l0 k a b ([] : List f9) 0
theorem v8.ok (H : v8.f k a = some r) : j7 Tryz.prog 213 [] [.sl .o 7 (a.map C6)] [(0,.row 176 4 (r.1.map r8))] (.tup [.row 0,.lit (.bool r.2)]):=by
 refine u3 102 Tryz.func213 fun E hE=>?_
 rw [v8.f] at H
 refine d8<|c9<|rn rfl<|d9<|c8<|d8<|c9<|rn rfl ?_
 obtain ⟨e,D,H⟩:=f6 H
 refine kC (cl (x8.ok D) [0]) ?_
 refine rn rfl<|d9<|c8<|d8<|c9<|k1 (u7 1 176 4 [.int .i64 0,.int .i64 0,.int .i64 0,.int .i64 0] (([] : List f9).map r8)) ?_
 refine rn rfl<|d9<|c8<|d8<|d8<|c9<|rn rfl<|k0 (G3 v7) ?_
 refine rn rfl<|d9<|c8<|j4 ?_
 refine V7 (fun k=>v8.l0 k a e) (fun d b=>⟨[(0,.sl .o 7 (a.map C6)),(4,.row 0),(5,.row 1),(14,.sl .o 7 (a.map C6)),(15,.lit (.int .i64 (a.length : Int))),(16,.lit (.int .i64 b))],[(0,.row 3 1 (e.map (eI .i64))),(1,.row 176 4 (d.map r8))]⟩) H (fun _ h=>aw hE [] h) (fun _ _ _=>v8.l0.eq_2 ..) fun w d b U H V m=>?_
 refine d8<|c9<|rn rfl<|d9<|c8<|d8 ?_
 obtain ⟨g,H⟩|⟨g,H⟩:=oi H
 ·refine iT (decide_eq_true g)<|i9<|c8<|d8<|j4<|d8<|c9<|rn rfl ?_
  obtain ⟨n,H⟩:=i8 H
  refine k0 (iS n g) ?_
  refine rn rfl<|k1 (al 2) ?_
  refine rn rfl<|d9<|c8<|d8<|d8<|c9<|rn rfl<|k0 (lnR v7) ?_
  refine rn rfl<|d9<|c8 ?_
  obtain ⟨o,H⟩|⟨o,H⟩:=oi H
  ·refine iT (eT o)<|d8<|c9<|k1 (u7 3 176 4 [.int .i64 0,.int .i64 0,.int .i64 0,.int .i64 0] (([] : List f9).map r8)) ?_
   refine rn rfl<|d9<|c8<|f7<|f8<|l7<|f8<|f8<|l7<|f8 ?_
   obtain rfl:=si H
   exact rt hE [(0,3)]
  refine iF (eF o)<|i9<|c8<|d8<|c9<|rn rfl<|k1 (al 4) ?_
  refine rn rfl<|d9<|c8 ?_
  refine H0 (J:=Jc3 E 102 r w (fun k=>v8.j1 k a e d b) (fun i j l=>⟨[(0,.sl .o 7 (a.map C6)),(4,.row 0),(5,.row 1),(8,.box 4 0),(14,.sl .o 7 (a.map C6)),(15,.lit (.int .i64 (a.length : Int))),(16,.lit (.int .i64 b))],[(0,.row 3 1 (e.map (eI .i64))),(1,.row 176 4 (d.map r8)),(4,.box 176 [.lit (.int .i64 ((l5 a b).f1.f0)),.lit (.int .i64 i),.lit (.int .i64 j),.lit (.int .i64 l)])]⟩)) ?_ ?_
  ·intro F p
   refine j4<|d8<|c9<|rn rfl ?_
   obtain ⟨W,G,H⟩:=f6 H
   refine kC (cl (H4.ok G) []) ?_
   refine rn rfl<|d9<|c8 ?_
   obtain ⟨q,H⟩|⟨q,H⟩:=oi H
   ·refine iT q<|m6<|aY4 rfl<|j5<|n7 rfl<|c8<|c9<|rn rfl<|d9<|l6 ?_
    exact aw hE [] (m (Nat.le_refl _) H)
   refine iF (bF q)<|d8<|c9<|rn rfl<|d9<|c8 ?_
   obtain ⟨s,H⟩|⟨s,H⟩:=oi H
   ·refine iT (eT s)<|c9<|rn rfl ?_
    obtain ⟨X,I,H⟩:=f6 H
    refine kC (cl (A5.ok I) []) ?_
    refine rn rfl<|d9<|j6<|l6 ?_
    exact aw hE [] (p.u (Nat.le_refl _) H)
   refine iF (eF s) ?_
   refine H0 (J:=Jc1 E 102 r w (fun k=>v8.j0 k a e d b) (fun x=>⟨[(0,.sl .o 7 (a.map C6)),(4,.row 0),(5,.row 1),(6,.lit (.int .i64 b)),(7,.box 2 0),(8,.box 4 0),(14,.sl .o 7 (a.map C6)),(15,.lit (.int .i64 (a.length : Int))),(16,.lit (.int .i64 b)),(41,.lit (.bool x))],[(0,.row 3 1 (e.map (eI .i64))),(1,.row 176 4 (d.map r8)),(2,.box 278 [.lit (.string ((l5 a b).f0)),.lit (.int .i64 ((l5 a b).f1.f0)),.lit (.int .i64 ((l5 a b).f1.f1)),.lit (.int .i64 ((l5 a b).f1.f2)),.lit (.int .i64 ((l5 a b).f1.f3)),.lit (.string ((l5 a b).f2)),.lit (.string ((l5 a b).f3))]),(4,.box 176 [.lit (.int .i64 ((l5 a b).f1.f0)),.lit (.int .i64 ((l5 a b).f1.f1)),.lit (.int .i64 ((l5 a b).f1.f2)),.lit (.int .i64 ((l5 a b).f1.f3))])]⟩)) ?_ ?_
   ·intro F y
    refine c9<|rn rfl ?_
    obtain ⟨Y,K,H⟩:=f6 H
    refine kC (cl (y7.ok K) []) ?_
    refine rn rfl ?_
    obtain ⟨c,H⟩|⟨c,H⟩:=oi H
    ·refine kv (g1 c) mv<|kv (g1 c) mv ?_
     obtain ⟨z,H⟩:=i8 H
     refine kv (g1 c) (iR n z)<|kv (g1 c) (qL n z)<|kv (g1 c) eql ?_
     refine k0 (o8 c) ?_
     refine rn rfl<|d9<|l6 ?_
     exact aw hE [] (y.u (Nat.le_refl _) H)
    iterate 5 refine kx (hT (bF c)) ?_
    refine k0 (n8 (bF c)) ?_
    refine rn rfl<|d9<|l6 ?_
    exact aw hE [] (y.u (Nat.le_refl _) H)
   refine jc1 (fun _ _=>v8.j0.eq_2 ..) fun Z x a0 H=>?_
   obtain ⟨t,H⟩|⟨t,H⟩:=oi H
   ·refine iT t<|d8<|c9<|rn rfl ?_
    obtain ⟨B,L,H⟩:=f6 H
    refine kC (cl (A5.ok L) []) ?_
    refine rn rfl<|k1 (al 5) ?_
    refine rn rfl<|d9<|c8<|d8<|c9<|rn rfl ?_
    obtain ⟨C,M,H⟩:=f6 H
    refine kC (cl (A5.ok M) []) ?_
    refine rn rfl<|k1 (al 6) ?_
    refine rn rfl<|d9<|c8<|d8<|c9<|rn rfl<|d9<|c8<|d8<|c9<|rn rfl<|d9<|c8<|d8<|c9<|rn rfl<|k1 (u7 7 176 4 [.int .i64 0,.int .i64 0,.int .i64 0,.int .i64 0] (([(⟨(l5 a b).f1.f0,(l5 a b).f1.f1,0,1⟩ : f9),(⟨7,wrap64 (B + 1),0,0⟩ : f9),(⟨7,C,0,0⟩ : f9)] : List f9).map r8)) ?_
    obtain ⟨N,H⟩:=i8 H
    refine k3 (D7 8 176 4 32 [.int .i64 0,.int .i64 0,.int .i64 0,.int .i64 0] ((d ++ ([(⟨(l5 a b).f1.f0,(l5 a b).f1.f1,0,1⟩ : f9),(⟨7,wrap64 (B + 1),0,0⟩ : f9),(⟨7,C,0,0⟩ : f9)] : List f9)).map r8) (.row rfl) (D8 N rfl) z7) ?_
    refine rn rfl<|d9<|c8<|m6<|aY4 rfl<|j5<|n7 rfl<|c8<|c9<|rn rfl<|d9<|l6 ?_
    exact aw hE [(1,8)] (m (by omega) H)
   refine iF (bF t)<|d8<|c9<|rn rfl ?_
   obtain ⟨a1,O,H⟩:=f6 H
   refine kC (cl (y7.ok O) []) ?_
   refine rn rfl<|d9<|c8 ?_
   obtain ⟨u,H⟩|⟨u,H⟩:=oi H
   ·refine iT u<|d8<|c9<|rn rfl ?_
    obtain ⟨a2,P,H⟩:=f6 H
    refine kC (cl (A5.ok P) []) ?_
    refine rn rfl<|d9<|c8<|c9<|rn rfl ?_
    obtain ⟨a3,Q,H⟩:=f6 H
    refine kC (cl (A5.ok Q) []) ?_
    refine rn rfl<|d9<|j6<|l6 ?_
    exact aw hE [] (p.u (by omega) H)
   refine iF (bF u)<|i9<|j6<|l6 ?_
   exact aw hE [] (p.u (by omega) H)
  refine jc3 (fun _ _ _ _=>v8.j1.eq_2 ..) fun a4 i j l a5 H=>?_
  refine c9<|rn rfl<|k1 (u7 9 176 4 [.int .i64 0,.int .i64 0,.int .i64 0,.int .i64 0] (([(⟨(l5 a b).f1.f0,i,j,l⟩ : f9)] : List f9).map r8)) ?_
  obtain ⟨R,H⟩:=i8 H
  refine k3 (D7 10 176 4 32 [.int .i64 0,.int .i64 0,.int .i64 0,.int .i64 0] ((d ++ ([(⟨(l5 a b).f1.f0,i,j,l⟩ : f9)] : List f9)).map r8) (.row rfl) (D8 R rfl) z7) ?_
  refine rn rfl<|d9<|j6<|c8<|c9<|rn rfl<|d9<|l6 ?_
  exact aw hE [(1,10)] (m (by omega) H)
 refine iF (decide_eq_false g)<|m6<|j5<|j5<|n7 rfl<|c8<|d8<|d8<|c9<|rn rfl<|k0 (lnR v7) ?_
 obtain ⟨a6,T,H⟩:=f6 H
 refine kC (cl (j8.ok T) []) ?_
 refine rn rfl<|d9<|c8 ?_
 obtain ⟨v,H⟩|⟨v,H⟩:=oi H
 ·refine iF (nF v)<|i9<|c8<|d8<|c9<|rn rfl<|d9<|c8<|f7 ?_
  obtain rfl:=si H
  exact rt hE [(0,1)]
 refine iT (nT (bF v))<|d8<|c9<|k1 (u7 11 176 4 [.int .i64 0,.int .i64 0,.int .i64 0,.int .i64 0] (([] : List f9).map r8)) ?_
 refine rn rfl<|d9<|c8<|f7<|f8 ?_
 obtain rfl:=si H
 exact rt hE [(0,11)]
def W5.f (k : Nat) (a : Int) (b : Int) (c : Int) (d : List D9) : Option ((List f9)×Int):=(K3.f k a b c d).bind fun h=>if h = true then (S4.f k a b c d).bind fun e=>(v8.f k e).bind fun g=>if (e.length : Int) > 600 then some (([] : List f9),2) else if g.2 = true then some (g.1,0) else some (([] : List f9),2) else some (([] : List f9),1)
theorem W5.ok (H : W5.f k d e g h = some r) : j7 Tryz.prog 152 [] [.agg [.lit (.int .i64 d),.lit (.int .i64 e),.lit (.int .i64 g),.sl .o 4 (h.map X0)]] [(0,.row 176 4 (r.1.map r8))] (.tup [.row 0,.lit (.int .i64 r.2)]):=by
 refine u3 27 Tryz.func152 fun E hE=>?_
 rw [W5.f] at H
 refine d8<|c9<|k1 (K2 0) ?_
 refine rn rfl<|d9<|c8<|d8<|d8<|c9<|rn rfl ?_
 obtain ⟨m,i,H⟩:=f6 H
 refine kC (cl (K3.ok i) []) ?_
 refine rn rfl<|d9<|c8 ?_
 obtain ⟨b,H⟩|⟨b,H⟩:=oi H
 ·refine iF (nF b)<|i9<|c8<|d8<|c9<|rn rfl ?_
  obtain ⟨n,j,H⟩:=f6 H
  refine kC (cl (S4.ok j) [2]) ?_
  refine rn rfl<|d9<|c8<|d8<|c9<|rn rfl ?_
  obtain ⟨o,l,H⟩:=f6 H
  refine kC (cl (v8.ok l) [3]) ?_
  refine rn rfl<|d9<|c8<|d8<|d8<|c9<|rn rfl<|k0 (lnR v7) ?_
  refine rn rfl ?_
  obtain ⟨a,H⟩|⟨a,H⟩:=oi H
  ·iterate 2 refine kx (hF (decide_eq_true a)) ?_
   refine k0 (o8 (decide_eq_true a))<|d9<|c8<|iT rfl<|d8<|c9<|k1 (u7 4 176 4 [.int .i64 0,.int .i64 0,.int .i64 0,.int .i64 0] (([] : List f9).map r8)) ?_
   refine rn rfl<|d9<|c8<|f7<|f8 ?_
   obtain rfl:=si H
   exact rt hE [(0,4)]
  refine kv (g1 (decide_eq_false a)) mv<|kv (g1 (decide_eq_false a)) V4 ?_
  refine k0 (n8 (decide_eq_false a))<|d9<|c8 ?_
  obtain ⟨c,H⟩|⟨c,H⟩:=oi H
  ·refine iF (nF c)<|i9<|c8<|d8<|c9<|rn rfl<|d9<|c8<|f7 ?_
   obtain rfl:=si H
   exact rt hE [(0,3)]
  refine iT (nT (bF c))<|d8<|c9<|k1 (u7 5 176 4 [.int .i64 0,.int .i64 0,.int .i64 0,.int .i64 0] (([] : List f9).map r8)) ?_
  refine rn rfl<|d9<|c8<|f7<|f8 ?_
  obtain rfl:=si H
  exact rt hE [(0,5)]
 refine iT (nT (bF b))<|d8<|c9<|k1 (u7 1 176 4 [.int .i64 0,.int .i64 0,.int .i64 0,.int .i64 0] (([] : List f9).map r8)) ?_
 refine rn rfl<|d9<|c8<|f7<|f8 ?_
 obtain rfl:=si H
 exact rt hE [(0,1)]
def G0.l0 : Nat→(List f9)→Int→Y44
 | 0,_,_=>none
 | c + 1,b,a=>if a ≥ 0 then if 0≤a then (if a < (b.length : Int) then if ((m8 b a).f0) = 7 then if 0≤(wrap64 ((wrap64 (a + 1)) + ((m8 b a).f1))) then (if (wrap64 ((wrap64 (a + 1)) + ((m8 b a).f1))) < (b.length : Int) then if ((m8 b (wrap64 ((wrap64 (a + 1)) + ((m8 b a).f1)))).f0) = 8 then G0.l0 c (b.set a.toNat (⟨(m8 b (wrap64 ((wrap64 (a + 1)) + ((m8 b a).f1)))).f0,(m8 b (wrap64 ((wrap64 (a + 1)) + ((m8 b a).f1)))).f1,(m8 b (wrap64 ((wrap64 (a + 1)) + ((m8 b a).f1)))).f2,(m8 b (wrap64 ((wrap64 (a + 1)) + ((m8 b a).f1)))).f3⟩ : f9)) (wrap64 (a - 1)) else G0.l0 c b (wrap64 (a - 1)) else none) else none else G0.l0 c b (wrap64 (a - 1)) else none) else none else some b
def G0.f (k : Nat) (a : List f9) : Y44:=if ([] : List f9).length + a.length < 4398046511104 then (u9.f k a).bind fun b=>if b = true then G0.l0 k (([] : List f9) ++ a) (wrap64 (((([] : List f9) ++ a).length : Int) - 1)) else some (([] : List f9) ++ a) else none
theorem G0.ok (H : G0.f k m = some r) : j7 Tryz.prog 215 [] [.sl .o 4 (m.map r8)] [(0,.row 176 4 (r.map r8))] (.row 0):=by
 refine u3 45 Tryz.func215 fun E hE=>?_
 rw [G0.f] at H
 refine d8<|c9<|rn rfl<|d9<|c8<|d8<|c9<|k1 (u7 0 176 4 [.int .i64 0,.int .i64 0,.int .i64 0,.int .i64 0] (([] : List f9).map r8)) ?_
 refine rn rfl ?_
 obtain ⟨p,H⟩:=i8 H
 refine k3 (D7 1 176 4 32 [.int .i64 0,.int .i64 0,.int .i64 0,.int .i64 0] ((([] : List f9) ++ m).map r8) (.slF (bg4)) (D8 p rfl) z7) ?_
 refine rn rfl<|d9<|c8<|d8<|d8<|c9<|rn rfl ?_
 obtain ⟨s,q,H⟩:=f6 H
 refine kC (cl (u9.ok q) []) ?_
 refine rn rfl<|d9<|c8 ?_
 obtain ⟨e,H⟩|⟨e,H⟩:=oi H
 ·refine iF (nF e)<|i9<|c8<|d8<|d8<|c9<|rn rfl<|k0 (lnR v7) ?_
  refine rn rfl<|d9<|c8<|j4 ?_
  refine V7 G0.l0 (fun a b=>⟨[(3,.row 1),(4,.lit (.int .i64 b))],[(1,.row 176 4 (a.map r8))]⟩) H (fun _ h=>aw hE [] h) (fun _ _ _=>G0.l0.eq_2 ..) fun t a b u H v g=>?_
  refine d8<|d8<|c9<|rn rfl<|d9<|c8 ?_
  obtain ⟨i,H⟩|⟨i,H⟩:=oi H
  ·refine iT (decide_eq_true i)<|i9<|c8<|d8<|j4<|d8<|d8<|c9<|rn rfl ?_
   obtain ⟨c,H⟩:=i8 H
   obtain ⟨d,H⟩:=i8 H
   refine k0 (iR c d) ?_
   refine rn rfl<|k0 (qL c d) ?_
   refine rn rfl<|d9<|c8 ?_
   obtain ⟨j,H⟩|⟨j,H⟩:=oi H
   ·refine iF (eM j)<|i9<|c8<|d8<|c9<|rn rfl<|k0 (iR c d) ?_
    refine rn rfl<|k0 (qL c d) ?_
    refine rn rfl ?_
    obtain ⟨n,H⟩:=i8 H
    obtain ⟨o,H⟩:=i8 H
    refine k0 (iR n o)<|k0 (qA 4 n o)<|k1 (al 2) ?_
    refine rn rfl<|d9<|c8<|d8<|c9<|rn rfl<|d9<|c8 ?_
    obtain ⟨l,H⟩|⟨l,H⟩:=oi H
    ·refine iT (eT l)<|c9<|rn rfl<|k0 (iR c d)<|k2 (stE 4 (r8 (⟨(m8 a (wrap64 ((wrap64 (b + 1)) + ((m8 a b).f1)))).f0,(m8 a (wrap64 ((wrap64 (b + 1)) + ((m8 a b).f1)))).f1,(m8 a (wrap64 ((wrap64 (b + 1)) + ((m8 a b).f1)))).f2,(m8 a (wrap64 ((wrap64 (b + 1)) + ((m8 a b).f1)))).f3⟩ : f9)) ((a.set b.toNat (⟨(m8 a (wrap64 ((wrap64 (b + 1)) + ((m8 a b).f1)))).f0,(m8 a (wrap64 ((wrap64 (b + 1)) + ((m8 a b).f1)))).f1,(m8 a (wrap64 ((wrap64 (b + 1)) + ((m8 a b).f1)))).f2,(m8 a (wrap64 ((wrap64 (b + 1)) + ((m8 a b).f1)))).f3⟩ : f9)).map r8) (ab9 (z:=R6) c d) af4)<|d9<|j6<|c8<|c9 ?_
     refine rn rfl<|d9<|l6 ?_
     exact aw hE [] (g (Nat.le_refl _) H)
    refine iF (eF l)<|i9<|j6<|c8<|c9<|rn rfl<|d9<|l6 ?_
    exact aw hE [] (g (Nat.le_refl _) H)
   refine iT (eN j)<|m6<|j5<|n7 rfl<|c8<|c9<|rn rfl<|d9<|l6 ?_
   exact aw hE [] (g (Nat.le_refl _) H)
  refine iF (decide_eq_false i)<|m6<|j5<|j5<|n7 rfl<|c8<|d8<|c9<|rn rfl<|d9<|c8<|f7 ?_
  obtain rfl:=si H
  exact rt hE [(0,1)]
 refine iT (nT (bF e))<|d8<|c9<|rn rfl<|d9<|c8<|f7<|f8 ?_
 obtain rfl:=si H
 exact rt hE [(0,1)]
def S6.j0 : Nat→Int→Int→Int→Int→Int→Bool→Y47
 | 0,_,_,_,_,_,_=>none
 | i + 1,d,e,a,c,b,g=>if g = true then some ([wrap64 ((wrap64 (b + 1)) + (min a c)),wrap64 ((wrap64 (b + 1)) + (max a c))] : List Int) else ((y7.f d e a c).bind fun h=>if h = true then some ([wrap64 ((wrap64 (b + 1)) + a)] : List Int) else some ([wrap64 (b + 1)] : List Int))
def S6.f (k : Nat) (a : Int) (b : Int) (c : Int) (d : Int) (e : Int) : Y47:=if a = 8 then some ([] : List Int) else if a = 7 then some ([wrap64 ((wrap64 (e + 1)) + b)] : List Int) else ((y7.f a b c d).bind fun g=>(if g = true then S6.j0 k a b c d e (c != d) else S6.j0 k a b c d e false))
theorem S6.ok (H : S6.f k g e c d b = some r) : j7 Tryz.prog 327 [] [.agg [.lit (.int .i64 g),.lit (.int .i64 e),.lit (.int .i64 c),.lit (.int .i64 d)],.lit (.int .i64 b)] [(0,.row 3 1 (r.map (eI .i64)))] (.row 0):=by
 refine u3 59 Tryz.func327 fun E hE=>?_
 rw [S6.f] at H
 refine d8<|c9<|k1 (K2 0) ?_
 refine rn rfl<|d9<|c8<|d8<|j4<|d8<|c9<|rn rfl<|d9<|c8 ?_
 obtain ⟨h,H⟩|⟨h,H⟩:=oi H
 ·refine iT (eT h)<|d8<|c9<|k1 (u7 1 3 1 [.int .i64 0] (([] : List Int).map (eI .i64))) ?_
  refine rn rfl<|d9<|c8<|f7<|l7<|f8 ?_
  obtain rfl:=si H
  exact rt hE [(0,1)]
 refine iF (eF h)<|d8<|c9<|rn rfl<|d9<|c8 ?_
 obtain ⟨i,H⟩|⟨i,H⟩:=oi H
 ·refine iT (eT i)<|d8<|c9<|rn rfl<|k1 (u7 2 3 1 [.int .i64 0] (([wrap64 ((wrap64 (b + 1)) + e)] : List Int).map (eI .i64))) ?_
  refine rn rfl<|d9<|c8<|f7<|l7<|f8 ?_
  obtain rfl:=si H
  exact rt hE [(0,2)]
 refine iF (eF i) ?_
 refine H0 (J:=Jc1 E 59 r k (fun k=>S6.j0 k g e c d b) (fun m=>⟨[(1,.lit (.int .i64 b)),(2,.box 0 0),(20,.lit (.bool m))],[(0,.box 176 [.lit (.int .i64 g),.lit (.int .i64 e),.lit (.int .i64 c),.lit (.int .i64 d)])]⟩)) ?_ ?_
 ·intro q n
  refine c9<|rn rfl ?_
  obtain ⟨s,o,H⟩:=f6 H
  refine kC (cl (y7.ok o) []) ?_
  refine rn rfl ?_
  obtain ⟨a,H⟩|⟨a,H⟩:=oi H
  ·refine kv (g1 a) (y8 2 2)<|kv (g1 a) B5<|kv (g1 a) (y8 3 3)<|kv (g1 a) B5<|kv (g1 a) neq ?_
   refine k0 (o8 a) ?_
   refine rn rfl<|d9<|l6 ?_
   exact aw hE [] (n.u (Nat.le_refl _) H)
  iterate 5 refine kx (hT (bF a)) ?_
  refine k0 (n8 (bF a)) ?_
  refine rn rfl<|d9<|l6 ?_
  exact aw hE [] (n.u (Nat.le_refl _) H)
 refine jc1 (fun _ _=>S6.j0.eq_2 ..) fun t m u H=>?_
 obtain ⟨j,H⟩|⟨j,H⟩:=oi H
 ·refine iT j<|d8<|c9<|rn rfl<|k0 min_ ?_
  refine rn rfl<|k0 max_ ?_
  refine rn rfl<|k1 (u7 3 3 1 [.int .i64 0] (([wrap64 ((wrap64 (b + 1)) + (min c d)),wrap64 ((wrap64 (b + 1)) + (max c d))] : List Int).map (eI .i64))) ?_
  refine rn rfl<|d9<|c8<|f7<|l7<|f8 ?_
  obtain rfl:=si H
  exact rt hE [(0,3)]
 refine iF (bF j)<|d8<|c9<|rn rfl ?_
 obtain ⟨v,p,H⟩:=f6 H
 refine kC (cl (y7.ok p) []) ?_
 refine rn rfl<|d9<|c8 ?_
 obtain ⟨l,H⟩|⟨l,H⟩:=oi H
 ·refine iT l<|d8<|c9<|rn rfl<|k1 (u7 4 3 1 [.int .i64 0] (([wrap64 ((wrap64 (b + 1)) + c)] : List Int).map (eI .i64))) ?_
  refine rn rfl<|d9<|c8<|f7<|l7<|f8 ?_
  obtain rfl:=si H
  exact rt hE [(0,4)]
 refine iF (bF l)<|i9<|j6<|c8<|d8<|c9<|rn rfl<|k1 (u7 5 3 1 [.int .i64 0] (([wrap64 (b + 1)] : List Int).map (eI .i64))) ?_
 refine rn rfl<|d9<|c8<|f7 ?_
 obtain rfl:=si H
 exact rt hE [(0,5)]
mutual
def B0.l0 : Nat→(List f9)→Int→((List Int))→(List Bool)→Int→Y45
 | 0,_,_,_,_,_=>none
 | i + 1,b,a,c,g,d=>if d < (c.length : Int) then if 0≤d then if 0≤(rd c d) then (if (rd c d) < (g.length : Int) then B0.l0 i b a c (g.set (rd c d).toNat true) (wrap64 (d + 1)) else none) else none else none else B0.l1 i b g (wrap64 (a + 1))
def B0.l1 : Nat→(List f9)→(List Bool)→Int→Y45
 | 0,_,_,_=>none
 | h + 1,b,e,a=>if a < (b.length : Int) then if 0≤a then if a < (e.length : Int) then if (M0 false e a) = true then (S6.f h ((m8 b a).f0) ((m8 b a).f1) ((m8 b a).f2) ((m8 b a).f3) a).bind fun c=>B0.l0 h b a c e 0 else B0.l1 h b e (wrap64 (a + 1)) else none else none else some e
end
def B0.f (k : Nat) (a : List f9) : Y45:=(u9.f k a).bind fun b=>if b = true then if 0≤(a.length : Int) then (if (a.length : Int).toNat≤281474976710656 then if 0 < ((List.replicate (a.length : Int).toNat false).length : Int) then B0.l1 k a ((List.replicate (a.length : Int).toNat false).set 0 true) 0 else none else none) else none else some ([] : List Bool)
theorem B0.ok (H : B0.f k a = some r) : j7 Tryz.prog 276 [] [.sl .o 4 (a.map r8)] [(0,.row 4 1 (r.map eB))] (.row 0):=by
 refine u3 43 Tryz.func276 fun E hE=>?_
 rw [B0.f] at H
 refine d8<|c9<|rn rfl<|d9<|c8<|d8<|d8<|c9<|rn rfl ?_
 obtain ⟨C,v,H⟩:=f6 H
 refine kC (cl (u9.ok v) []) ?_
 refine rn rfl<|d9<|c8 ?_
 obtain ⟨g,H⟩|⟨g,H⟩:=oi H
 ·refine iF (nF g)<|i9<|c8<|d8<|c9<|rn rfl<|k0 (G3 v7) ?_
  obtain ⟨w,H⟩:=i8 H
  obtain ⟨x,H⟩:=i8 H
  refine k1 (mks 1 4 1 1 [.bool false] (eB false) ((List.replicate (a.length : Int).toNat false).map eB) w (mkb x rfl) bU5) ?_
  refine rn rfl<|d9<|c8<|d8<|c9<|rn rfl ?_
  obtain ⟨n,H⟩:=i8 H
  refine k0 (iR (by decide : (0 : Int)≤0) n)<|k2 (stE 1 (eB true) (((List.replicate (a.length : Int).toNat false).set 0 true).map eB) (ab9 (z:=false) (by decide : (0 : Int)≤0) n) af4)<|d9<|c8<|d8<|d8<|c9 ?_
  refine rn rfl<|k0 (G3 v7) ?_
  refine rn rfl<|d9<|c8<|j4 ?_
  refine V7 (fun k=>B0.l1 k a) (fun o c=>⟨[(3,.row 1),(17,.sl .o 4 (a.map r8)),(18,.lit (.int .i64 (a.length : Int))),(19,.lit (.int .i64 c))],[(1,.row 4 1 (o.map eB))]⟩) H (fun _ h=>aw hE [] h) (fun _ _ _=>B0.l1.eq_2 ..) fun D o c F H G p=>?_
  refine d8<|c9<|rn rfl<|d9<|c8<|d8 ?_
  obtain ⟨d,H⟩|⟨d,H⟩:=oi H
  ·refine iT (decide_eq_true d)<|i9<|c8<|d8<|j4<|d8<|c9<|rn rfl ?_
   obtain ⟨i,H⟩:=i8 H
   refine k0 (iS i d) ?_
   refine rn rfl<|k1 (al 2) ?_
   refine rn rfl<|d9<|c8<|d8<|d8<|c9<|rn rfl ?_
   obtain ⟨q,H⟩:=i8 H
   refine k0 (iR i q)<|k0 (qL i q) ?_
   refine rn rfl<|d9<|c8 ?_
   obtain ⟨j,H⟩|⟨j,H⟩:=oi H
   ·refine iF (nF j)<|i9<|c8<|d8<|c9<|rn rfl ?_
    obtain ⟨e,y,H⟩:=f6 H
    refine kC (cl (S6.ok y) [3])<|k0 (lnR v7) ?_
    refine rn rfl<|d9<|c8<|j4 ?_
    refine V7 (fun k=>B0.l0 k a c e) (fun l m=>⟨[(3,.row 1),(17,.sl .o 4 (a.map r8)),(18,.lit (.int .i64 (a.length : Int))),(19,.lit (.int .i64 c)),(31,.row 3),(32,.lit (.int .i64 (e.length : Int))),(33,.lit (.int .i64 m))],[(1,.row 4 1 (l.map eB)),(3,.row 3 1 (e.map (eI .i64)))]⟩) H (fun _ h=>aw hE [] h) (fun _ _ _=>B0.l0.eq_2 ..) fun I l m J H K B=>?_
    refine d8<|c9<|rn rfl<|d9<|c8<|d8 ?_
    obtain ⟨b,H⟩|⟨b,H⟩:=oi H
    ·refine iT (decide_eq_true b)<|i9<|c8<|d8<|j4<|d8<|c9 ?_
     obtain ⟨s,H⟩:=i8 H
     refine k0 (iR s b)<|k0 (qL s b) ?_
     refine rn rfl<|d9<|c8<|c9<|rn rfl ?_
     obtain ⟨t,H⟩:=i8 H
     obtain ⟨u,H⟩:=i8 H
     refine k0 (iR t u)<|k2 (stE 1 (eB true) ((l.set (rd e m).toNat true).map eB) (ab9 (z:=false) t u) af4)<|d9<|j6<|c8<|c9 ?_
     refine rn rfl<|d9<|l6 ?_
     exact aw hE [] (B (Nat.le_refl _) H)
    refine iF (decide_eq_false b)<|m6<|j5<|j5<|n7 rfl<|j6<|c8<|c9<|rn rfl<|d9<|l6 ?_
    exact aw hE [] (p (by omega) H)
   refine iT (nT (bF j))<|m6<|j5<|n7 rfl<|c8<|c9<|rn rfl<|d9<|l6 ?_
   exact aw hE [] (p (Nat.le_refl _) H)
  refine iF (decide_eq_false d)<|m6<|j5<|j5<|n7 rfl<|c8<|d8<|c9<|rn rfl<|d9<|c8<|f7 ?_
  obtain rfl:=si H
  exact rt hE [(0,1)]
 refine iT (nT (bF g))<|d8<|c9<|k1 (u7 0 4 1 [.bool false] (([] : List Bool).map eB)) ?_
 refine rn rfl<|d9<|c8<|f7<|f8 ?_
 obtain rfl:=si H
 exact rt hE []
mutual
def v6.l0 : Nat→(List f9)→((List Bool))→(List Int)→Int→Int→Y44
 | 0,_,_,_,_,_=>none
 | j + 1,b,d,c,h,e=>if e < (b.length : Int) then if 0≤e then (if e < (c.length : Int) then if e < (d.length : Int) then if (M0 false d e) = true then v6.l0 j b d (c.set e.toNat h) (wrap64 (h + 1)) (wrap64 (e + 1)) else v6.l0 j b d (c.set e.toNat h) h (wrap64 (e + 1)) else none else none) else none else v6.l1 j b d c ([] : List f9) 0
def v6.j0 : Nat→(List f9)→((List Bool))→(List Int)→(List f9)→Int→Int→Int→Int→Y44
 | 0,_,_,_,_,_,_,_,_=>none
 | n + 1,b,d,c,g,a,k,l,m=>if g.length + ([(⟨(m8 b a).f0,k,l,m⟩ : f9)] : List f9).length < 4398046511104 then v6.l1 n b d c (g ++ ([(⟨(m8 b a).f0,k,l,m⟩ : f9)] : List f9)) (wrap64 (a + 1)) else none
def v6.l1 : Nat→(List f9)→((List Bool))→(List Int)→(List f9)→Int→Y44
 | 0,_,_,_,_,_=>none
 | i + 1,b,d,c,g,a=>if a < (b.length : Int) then if 0≤a then if a < (d.length : Int) then if (M0 false d a) = true then (y7.f ((m8 b a).f0) ((m8 b a).f1) ((m8 b a).f2) ((m8 b a).f3)).bind fun o=>if o = true then (if 0≤(wrap64 ((wrap64 (a + 1)) + ((m8 b a).f2))) then (if (wrap64 ((wrap64 (a + 1)) + ((m8 b a).f2))) < (c.length : Int) then (if a < (c.length : Int) then if 0≤(wrap64 ((wrap64 (a + 1)) + ((m8 b a).f3))) then (if (wrap64 ((wrap64 (a + 1)) + ((m8 b a).f3))) < (c.length : Int) then v6.j0 i b d c g a ((m8 b a).f1) (wrap64 ((wrap64 ((rd c (wrap64 ((wrap64 (a + 1)) + ((m8 b a).f2)))) - (rd c a))) - 1)) (wrap64 ((wrap64 ((rd c (wrap64 ((wrap64 (a + 1)) + ((m8 b a).f3)))) - (rd c a))) - 1)) else none) else none else none) else none) else none) else if ((m8 b a).f0) = 7 then (if 0≤(wrap64 ((wrap64 (a + 1)) + ((m8 b a).f1))) then (if (wrap64 ((wrap64 (a + 1)) + ((m8 b a).f1))) < (c.length : Int) then (if a < (c.length : Int) then v6.j0 i b d c g a (wrap64 ((wrap64 ((rd c (wrap64 ((wrap64 (a + 1)) + ((m8 b a).f1)))) - (rd c a))) - 1)) ((m8 b a).f2) ((m8 b a).f3) else none) else none) else none) else v6.j0 i b d c g a ((m8 b a).f1) ((m8 b a).f2) ((m8 b a).f3) else v6.l1 i b d c g (wrap64 (a + 1)) else none else none else some g
end
def v6.f (k : Nat) (a : List f9) : Y44:=(u9.f k a).bind fun b=>if b = true then (B0.f k a).bind fun c=>if 0≤(a.length : Int) then (if (a.length : Int).toNat≤35184372088832 then v6.l0 k a c (List.replicate (a.length : Int).toNat (0 : Int)) 0 0 else none) else none else (if ([] : List f9).length + a.length < 4398046511104 then some (([] : List f9) ++ a) else none)
theorem v6.ok (H : v6.f k a = some r) : j7 Tryz.prog 214 [] [.sl .o 4 (a.map r8)] [(0,.row 176 4 (r.map r8))] (.row 0):=by
 refine u3 108 Tryz.func214 fun E hE=>?_
 rw [v6.f] at H
 refine d8<|c9<|rn rfl<|d9<|c8<|d8<|d8<|c9<|rn rfl ?_
 obtain ⟨Z,Q,H⟩:=f6 H
 refine kC (cl (u9.ok Q) []) ?_
 refine rn rfl<|d9<|c8 ?_
 obtain ⟨q,H⟩|⟨q,H⟩:=oi H
 ·refine iF (nF q)<|i9<|c8<|d8<|c9<|rn rfl ?_
  obtain ⟨e,R,H⟩:=f6 H
  refine kC (cl (B0.ok R) [2]) ?_
  refine rn rfl<|d9<|c8<|d8<|c9<|rn rfl<|k0 (G3 v7) ?_
  obtain ⟨T,H⟩:=i8 H
  obtain ⟨U,H⟩:=i8 H
  refine k1 (mks 3 3 1 8 [.int .i64 0] (eI .i64 (0 : Int)) ((List.replicate (a.length : Int).toNat (0 : Int)).map (eI .i64)) T (mkb U rfl) bU5) ?_
  refine rn rfl<|d9<|c8<|d8<|c9<|rn rfl<|d9<|c8<|d8<|d8<|c9<|rn rfl<|k0 (G3 v7) ?_
  refine rn rfl<|d9<|c8<|j4 ?_
  refine lp3 (fun k=>v6.l0 k a e) (fun c i s=>⟨[(0,.sl .o 4 (a.map r8)),(3,.row 2),(4,.row 3),(5,.lit (.int .i64 i)),(22,.lit (.int .i64 (a.length : Int))),(23,.lit (.int .i64 s))],[(2,.row 4 1 (e.map eB)),(3,.row 3 1 (c.map (eI .i64)))]⟩) H (fun _ h=>aw hE [] h) (fun _ _ _ _=>v6.l0.eq_2 ..) fun a0 c i s a1 H a2 B=>?_
  refine d8<|c9<|rn rfl<|d9<|c8<|d8 ?_
  obtain ⟨t,H⟩|⟨t,H⟩:=oi H
  ·refine iT (decide_eq_true t)<|i9<|c8<|d8<|j4<|d8<|c9<|rn rfl<|d9<|c8<|d8<|c9<|rn rfl ?_
   obtain ⟨j,H⟩:=i8 H
   obtain ⟨C,H⟩:=i8 H
   refine k0 (iR j C)<|k2 (stE 1 (eI .i64 i) ((c.set s.toNat i).map (eI .i64)) (ab9 (z:=(0 : Int)) j C) af4)<|d9<|c8<|d8<|c9 ?_
   refine rn rfl ?_
   obtain ⟨D,H⟩:=i8 H
   refine k0 (iR j D)<|k0 (qL j D)<|d9<|c8 ?_
   obtain ⟨u,H⟩|⟨u,H⟩:=oi H
   ·refine iT u<|c9<|rn rfl<|d9<|j6<|c8<|c9<|rn rfl<|d9<|l6 ?_
    exact aw hE [] (B (Nat.le_refl _) H)
   refine iF (bF u)<|i9<|j6<|c8<|c9<|rn rfl<|d9<|l6 ?_
   exact aw hE [] (B (Nat.le_refl _) H)
  refine iF (decide_eq_false t)<|m6<|j5<|j5<|n7 rfl<|c8<|d8<|c9<|k1 (u7 4 176 4 [.int .i64 0,.int .i64 0,.int .i64 0,.int .i64 0] (([] : List f9).map r8)) ?_
  refine rn rfl<|d9<|c8<|d8<|d8<|c9<|rn rfl<|k0 (G3 v7) ?_
  refine rn rfl<|d9<|c8<|j4 ?_
  refine V7 (fun k=>v6.l1 k a e c) (fun g d=>⟨[(3,.row 2),(4,.row 3),(7,.row 4),(38,.sl .o 4 (a.map r8)),(39,.lit (.int .i64 (a.length : Int))),(40,.lit (.int .i64 d))],[(2,.row 4 1 (e.map eB)),(3,.row 3 1 (c.map (eI .i64))),(4,.row 176 4 (g.map r8))]⟩) H (fun _ h=>aw hE [] h) (fun _ _ _=>v6.l1.eq_2 ..) fun V g d a3 H a4 F=>?_
  refine d8<|c9<|rn rfl<|d9<|c8<|d8 ?_
  obtain ⟨l,H⟩|⟨l,H⟩:=oi H
  ·refine iT (decide_eq_true l)<|i9<|c8<|d8<|j4<|d8<|c9<|rn rfl ?_
   obtain ⟨b,H⟩:=i8 H
   refine k0 (iS b l) ?_
   refine rn rfl<|k1 (al 5) ?_
   refine rn rfl<|d9<|c8<|d8<|d8<|c9<|rn rfl ?_
   obtain ⟨G,H⟩:=i8 H
   refine k0 (iR b G)<|k0 (qL b G) ?_
   refine rn rfl<|d9<|c8 ?_
   obtain ⟨v,H⟩|⟨v,H⟩:=oi H
   ·refine iF (nF v)<|i9<|c8 ?_
    refine H0 (J:=Jc3 E 108 r V (fun k=>v6.j0 k a e c g d) (fun m n o=>⟨[(3,.row 2),(4,.row 3),(7,.row 4),(9,.box 5 0),(38,.sl .o 4 (a.map r8)),(39,.lit (.int .i64 (a.length : Int))),(40,.lit (.int .i64 d))],[(2,.row 4 1 (e.map eB)),(3,.row 3 1 (c.map (eI .i64))),(4,.row 176 4 (g.map r8)),(5,.box 176 [.lit (.int .i64 ((m8 a d).f0)),.lit (.int .i64 m),.lit (.int .i64 n),.lit (.int .i64 o)])]⟩)) ?_ ?_
    ·intro a5 w
     refine j4<|d8<|c9<|rn rfl ?_
     obtain ⟨a6,W,H⟩:=f6 H
     refine kC (cl (y7.ok W) []) ?_
     refine rn rfl<|d9<|c8 ?_
     obtain ⟨x,H⟩|⟨x,H⟩:=oi H
     ·refine iT x<|d8<|c9<|rn rfl ?_
      obtain ⟨I,H⟩:=i8 H
      obtain ⟨K,H⟩:=i8 H
      refine k0 (iR I K)<|k0 (qL I K) ?_
      refine rn rfl ?_
      obtain ⟨p,H⟩:=i8 H
      refine k0 (iR b p)<|k0 (qL b p) ?_
      refine rn rfl<|ed<|c8<|c9<|rn rfl ?_
      obtain ⟨L,H⟩:=i8 H
      obtain ⟨M,H⟩:=i8 H
      refine k0 (iR L M)<|k0 (qL L M) ?_
      refine rn rfl<|k0 (iR b p)<|k0 (qL b p) ?_
      refine rn rfl<|ed<|j6<|l6 ?_
      exact aw hE [] (w.u (Nat.le_refl _) H)
     refine iF (bF x)<|d8<|c9<|rn rfl<|d9<|c8 ?_
     obtain ⟨y,H⟩|⟨y,H⟩:=oi H
     ·refine iT (eT y)<|c9<|rn rfl ?_
      obtain ⟨N,H⟩:=i8 H
      obtain ⟨O,H⟩:=i8 H
      refine k0 (iR N O)<|k0 (qL N O) ?_
      refine rn rfl ?_
      obtain ⟨P,H⟩:=i8 H
      refine k0 (iR b P)<|k0 (qL b P) ?_
      refine rn rfl<|ed<|j6<|l6 ?_
      exact aw hE [] (w.u (Nat.le_refl _) H)
     refine iF (eF y)<|i9<|j6<|l6 ?_
     exact aw hE [] (w.u (Nat.le_refl _) H)
    refine jc3 (fun _ _ _ _=>v6.j0.eq_2 ..) fun a7 m n o a8 H=>?_
    refine c9<|rn rfl<|k1 (u7 6 176 4 [.int .i64 0,.int .i64 0,.int .i64 0,.int .i64 0] (([(⟨(m8 a d).f0,m,n,o⟩ : f9)] : List f9).map r8)) ?_
    obtain ⟨X,H⟩:=i8 H
    refine k3 (D7 7 176 4 32 [.int .i64 0,.int .i64 0,.int .i64 0,.int .i64 0] ((g ++ ([(⟨(m8 a d).f0,m,n,o⟩ : f9)] : List f9)).map r8) (.row rfl) (D8 X rfl) z7) ?_
    refine rn rfl<|d9<|j6<|c8<|c9<|rn rfl<|d9<|l6 ?_
    exact aw hE [(4,7)] (F (by omega) H)
   refine iT (nT (bF v))<|m6<|j5<|n7 rfl<|c8<|c9<|rn rfl<|d9<|l6 ?_
   exact aw hE [] (F (Nat.le_refl _) H)
  refine iF (decide_eq_false l)<|m6<|j5<|j5<|n7 rfl<|c8<|d8<|c9<|rn rfl<|d9<|c8<|f7 ?_
  obtain rfl:=si H
  exact rt hE [(0,4)]
 refine iT (nT (bF q))<|d8<|c9<|k1 (u7 0 176 4 [.int .i64 0,.int .i64 0,.int .i64 0,.int .i64 0] (([] : List f9).map r8)) ?_
 refine rn rfl ?_
 obtain ⟨Y,H⟩:=i8 H
 refine k3 (D7 1 176 4 32 [.int .i64 0,.int .i64 0,.int .i64 0,.int .i64 0] ((([] : List f9) ++ a).map r8) (.slF (bg4)) (D8 Y rfl) z7) ?_
 refine rn rfl<|d9<|c8<|f7<|f8 ?_
 obtain rfl:=si H
 exact rt hE [(0,1)]
def af2.f (k : Nat) (a : List f9) : Y44:=(G0.f k a).bind fun b=>((v6.f k b).bind fun c=>some c)
theorem af2.ok (H : af2.f k a = some r) : j7 Tryz.prog 154 [] [.sl .o 4 (a.map r8)] [(0,.row 176 4 (r.map r8))] (.row 0):=by
 refine u3 6 Tryz.func154 fun E hE=>?_
 rw [af2.f] at H
 refine d8<|c9<|rn rfl<|d9<|c8<|d8<|c9<|rn rfl ?_
 obtain ⟨d,b,H⟩:=f6 H
 refine kC (cl (G0.ok b) [0]) ?_
 obtain ⟨e,c,H⟩:=f6 H
 refine kC (cl (v6.ok c) [1]) ?_
 refine rn rfl<|d9<|c8<|f7 ?_
 obtain rfl:=si H
 exact rt hE [(0,1)]
def V5.f (k : Nat) (c : Y53) (a : List f9) : Option (Y51×Bool):=(D0.f k c).bind fun b=>(if ([] : List f9).length + a.length < 4398046511104 then (if b.length + ([([] : List f9) ++ a] : List (List f9)).length < 5864062014805 then (G4.f k (b ++ ([([] : List f9) ++ a] : List (List f9)))).bind fun d=>if d = true then some (b ++ ([([] : List f9) ++ a] : List (List f9)),true) else ((D0.f k c).bind fun e=>some (e,false)) else none) else none)
theorem V5.ok (H : V5.f k c a = some r) : j7 Tryz.prog 153 [] [.sl .o 1 (c.map (eL 4 (r8))),.sl .o 4 (a.map r8)] [(0,.row 104 1 (r.1.map (eL 4 (r8))))] (.tup [.row 0,.lit (.bool r.2)]):=by
 refine u3 20 Tryz.func153 fun E hE=>?_
 rw [V5.f] at H
 refine d8<|c9<|rn rfl<|d9<|c8<|d8<|c9<|rn rfl ?_
 obtain ⟨d,e,H⟩:=f6 H
 refine kC (cl (D0.ok e) [0])<|k1 (u7 1 176 4 [.int .i64 0,.int .i64 0,.int .i64 0,.int .i64 0] (([] : List f9).map r8)) ?_
 refine rn rfl ?_
 obtain ⟨g,H⟩:=i8 H
 refine k3 (bm3 (D7 2 176 4 32 [.int .i64 0,.int .i64 0,.int .i64 0,.int .i64 0] ((([] : List f9) ++ a).map r8) (.slF (bg4)) (D8 g rfl) z7))<|k1 (u7 3 104 1 [.slice none 0 0] (([([] : List f9) ++ a] : List (List f9)).map (eL 4 (r8)))) ?_
 obtain ⟨h,H⟩:=i8 H
 refine k3 (D7 4 104 1 24 [.slice none 0 0] ((d ++ ([([] : List f9) ++ a] : List (List f9))).map (eL 4 (r8))) (.row rfl) (D8 h rfl) z7) ?_
 refine rn rfl<|d9<|c8<|d8<|d8<|c9<|rn rfl ?_
 obtain ⟨l,i,H⟩:=f6 H
 refine kC (cl (G4.ok i) []) ?_
 refine rn rfl<|d9<|c8 ?_
 obtain ⟨b,H⟩|⟨b,H⟩:=oi H
 ·refine iF (nF b)<|i9<|c8<|d8<|c9<|rn rfl<|d9<|c8<|f7 ?_
  obtain rfl:=si H
  exact rt hE [(0,4)]
 refine iT (nT (bF b))<|d8<|c9<|rn rfl ?_
 obtain ⟨m,j,H⟩:=f6 H
 refine kC (cl (D0.ok j) [5]) ?_
 refine rn rfl<|d9<|c8<|f7<|f8 ?_
 obtain rfl:=si H
 exact rt hE [(0,5)]
def U4.f (k : Nat) (a : Y42) (d : List H7) (e : List D3) (g : List D1) (h : List Int) (i : List A2) (j : Int) (l : List Int) (m : List C7) (n : Int) (o : List Int) (p : List E9) (c : Int) (s : ByteArray) : Y1:=(A8.f k s).bind fun b=>(W5.f k b.1 b.2.1 b.2.2.1 b.2.2.2.1).bind fun q=>if b.2.2.2.2 = true then if q.2 = 0 then if 0≤c then (if c < (a.length : Int) then ((af2.f k q.1).bind fun t=>((V5.f k (M0 ([] : List (List f9)) a c) t).bind fun r=>(W9.f r.2).bind fun u=>some (u,a.set c.toNat r.1,d,e,g,h,i,j,l,m,n,o,p))) else none) else none else some (1,a,d,e,g,h,i,j,l,m,n,o,p) else some (1,a,d,e,g,h,i,j,l,m,n,o,p)
theorem U4.ok (H : U4.f k e i j l m n o p q s t u g v = some r) : j7 Tryz.prog 74 [(0,.box 37 [.row 1,.row 2,.row 3,.row 4,.row 5,.row 6,.lit (.int .i64 o),.row 7,.row 8,.lit (.int .i64 s),.row 9,.row 10]),(1,.row 102 1 (e.map (eL 1 (eL 4 (r8))))),(2,.row 50 4 (i.map M5)),(3,.row 48 5 (j.map L2)),(4,.row 96 6 (l.map I2)),(5,.row 3 1 (m.map (eI .i64))),(6,.row 116 6 (n.map C9)),(7,.row 3 1 (p.map (eI .i64))),(8,.row 108 3 (q.map F9)),(9,.row 3 1 (t.map (eI .i64))),(10,.row 42 4 (u.map M6))] [.box 0 0,.lit (.int .i64 g),.lit (.string v)] [(0,.box 37 [.row 1,.row 2,.row 3,.row 4,.row 5,.row 6,.lit (.int .i64 r.2.2.2.2.2.2.2.1),.row 7,.row 8,.lit (.int .i64 r.2.2.2.2.2.2.2.2.2.2.1),.row 9,.row 10]),(1,.row 102 1 (r.2.1.map (eL 1 (eL 4 (r8))))),(2,.row 50 4 (r.2.2.1.map M5)),(3,.row 48 5 (r.2.2.2.1.map L2)),(4,.row 96 6 (r.2.2.2.2.1.map I2)),(5,.row 3 1 (r.2.2.2.2.2.1.map (eI .i64))),(6,.row 116 6 (r.2.2.2.2.2.2.1.map C9)),(7,.row 3 1 (r.2.2.2.2.2.2.2.2.1.map (eI .i64))),(8,.row 108 3 (r.2.2.2.2.2.2.2.2.2.1.map F9)),(9,.row 3 1 (r.2.2.2.2.2.2.2.2.2.2.2.1.map (eI .i64))),(10,.row 42 4 (r.2.2.2.2.2.2.2.2.2.2.2.2.map M6))] (.lit (.int .i64 r.1)):=by
 refine u3 51 Tryz.func74 fun E hE=>?_
 rw [U4.f] at H
 refine d8<|c9<|rn rfl<|d9<|c8<|d8<|c9<|rn rfl ?_
 obtain ⟨D,w,H⟩:=f6 H
 refine kC (cl (A8.ok w) [11]) ?_
 refine rn rfl<|k1 (al 12) ?_
 refine rn rfl<|d9<|c8<|d8<|c9<|rn rfl ?_
 obtain ⟨F,x,H⟩:=f6 H
 refine kC (cl (W5.ok x) [13]) ?_
 refine rn rfl<|d9<|c8<|d8<|d8<|c9<|rn rfl ?_
 obtain ⟨a,H⟩|⟨a,H⟩:=oi H
 ·refine kv (g1 (nF a)) mv<|kv (g1 (nF a)) neq ?_
  refine k0 (n8 (nF a))<|d9<|c8 ?_
  obtain ⟨d,H⟩|⟨d,H⟩:=oi H
  ·refine iF (eM d)<|i9<|c8<|d8<|c9<|rn rfl ?_
   obtain ⟨b,H⟩:=i8 H
   obtain ⟨c,H⟩:=i8 H
   refine k0 (iR b c)<|k0 (qL b c) ?_
   refine rn rfl ?_
   obtain ⟨G,y,H⟩:=f6 H
   refine kC (cl (af2.ok y) [14]) ?_
   obtain ⟨h,B,H⟩:=f6 H
   refine kC (cl (V5.ok B) [15]) ?_
   refine rn rfl<|ed<|c8<|d8 ?_
   refine aq7 15<|c9 ?_
   refine rn rfl<|k0 (iR b c)<|k2 (stE 1 (eL 1 (eL 4 (r8)) h.1) ((e.set g.toNat h.1).map (eL 1 (eL 4 (r8)))) (ab9 (z:=([] : List (List f9))) b c) af4)<|d9<|c8<|d8<|c9 ?_
   refine rn rfl ?_
   obtain ⟨I,C,H⟩:=f6 H
   refine kC (cl (W9.ok C) []) ?_
   refine rn rfl<|d9<|c8<|f7 ?_
   obtain rfl:=si H
   exact rt hE []
  refine iT (eN d)<|d8<|c9<|rn rfl<|d9<|c8<|f7<|f8 ?_
  obtain rfl:=si H
  exact rt hE []
 iterate 2 refine kx (hF (nT (bF a))) ?_
 refine k0 (o8 (nT (bF a)))<|d9<|c8<|iT rfl<|d8<|c9 ?_
 refine rn rfl<|d9<|c8<|f7<|f8 ?_
 obtain rfl:=si H
 exact rt hE []
def H3.j0 : Nat→(List u5)→Int→Int→Int→Int→((List u5)×Int×Int×Int)→Bool→Y28
 | 0,_,_,_,_,_,_,_=>none
 | e + 1,g,b,h,i,c,a,d=>if d = true then some (a.1,5,a.2.2.1,a.2.2.2) else some (a.1,min 5 (wrap64 (b + c)),a.2.2.1,a.2.2.2)
def H3.f (k : Nat) (d : List u5) (b : Int) (e : Int) (g : Int) (c : Int) : Y28:=(I8.f d b e g).bind fun a=>if c < 0 then some (a.1,a.2.1,a.2.2.1,a.2.2.2) else (if b ≥ 5 then H3.j0 k d b e g c a true else (if c > 5 then H3.j0 k d b e g c a true else (if b ≥ 0 then H3.j0 k d b e g c a (decide (c ≥ 5)) else H3.j0 k d b e g c a false)))
theorem H3.ok (H : H3.f k g h i j l = some r) : j7 Tryz.prog 129 [] [.agg [.sl .o 4 (g.map I1),.lit (.int .i64 h),.lit (.int .i64 i),.lit (.int .i64 j)],.lit (.int .i64 l)] [(0,.row 46 4 (r.1.map I1))] (.agg [.row 0,.lit (.int .i64 r.2.1),.lit (.int .i64 r.2.2.1),.lit (.int .i64 r.2.2.2)]):=by
 refine u3 36 Tryz.func129 fun E hE=>?_
 rw [H3.f] at H
 refine d8<|c9<|k1 (K2 0)<|k1 (al 1)<|d9<|c8<|d8<|c9 ?_
 refine rn rfl ?_
 obtain ⟨d,p,H⟩:=f6 H
 refine kC (cl (I8.ok p) [2])<|k1 (al 3) ?_
 refine rn rfl<|d9<|c8<|d8<|j4<|d8<|c9<|rn rfl<|d9<|c8 ?_
 obtain ⟨m,H⟩|⟨m,H⟩:=oi H
 ·refine iT (decide_eq_true m)<|i9<|j6<|c8<|d8<|c9<|rn rfl<|d9<|c8<|f7 ?_
  obtain rfl:=si H
  exact rt hE [(0,2)] (hr:=(D5 4 .nil))
 refine iF (decide_eq_false m) ?_
 refine H0 (J:=Jc1 E 36 r k (fun k=>H3.j0 k g h i j l d) (fun o=>⟨[(1,.lit (.int .i64 l)),(2,.box 0 0),(4,.box 1 0),(5,.box 3 0),(17,.lit (.bool o))],[(0,.box 50 [.sl .o 4 (g.map I1),.lit (.int .i64 h),.lit (.int .i64 i),.lit (.int .i64 j)]),(1,.box 50 [.lit (.slice none 0 0),.lit (.int .i64 0),.lit (.int .i64 0),.lit (.int .i64 0)]),(2,.row 46 4 (d.1.map I1)),(3,.box 50 [.row 2,.lit (.int .i64 d.2.1),.lit (.int .i64 d.2.2.1),.lit (.int .i64 d.2.2.2)])]⟩)) ?_ ?_
 ·intro q e
  refine c9<|rn rfl ?_
  obtain ⟨b,H⟩|⟨b,H⟩:=oi H
  ·iterate 2 refine kx (hF (decide_eq_true b)) ?_
   refine k0 (o8 (decide_eq_true b)) ?_
   refine rn rfl ?_
   iterate 3 refine kx (hF rfl) ?_
   refine ku (neT (hF rfl)) ?_
   iterate 2 refine ku neU ?_
   refine kx (hF rfl) ?_
   refine k0 (o8 rfl) ?_
   refine rn rfl<|d9<|l6 ?_
   exact aw hE [] (e.u (Nat.le_refl _) H)
  refine kv (g1 (decide_eq_false b)) mv<|kv (g1 (decide_eq_false b)) gtr ?_
  refine k0 (n8 (decide_eq_false b)) ?_
  refine rn rfl ?_
  obtain ⟨a,H⟩|⟨a,H⟩:=oi H
  ·iterate 3 refine kx (hF (decide_eq_true a)) ?_
   refine ku (neT (hF (decide_eq_true a))) ?_
   iterate 2 refine ku neU ?_
   refine kx (hF (decide_eq_true a)) ?_
   refine k0 (o8 (decide_eq_true a)) ?_
   refine rn rfl<|d9<|l6 ?_
   exact aw hE [] (e.u (Nat.le_refl _) H)
  refine kv (g1 (decide_eq_false a)) (y8 1 1)<|kv (g1 (decide_eq_false a)) B5<|kv (g1 (decide_eq_false a)) geq<|kv (g1 (decide_eq_false a)) mv ?_
  obtain ⟨c,H⟩|⟨c,H⟩:=oi H
  ·refine kv (g1 (decide_eq_true c)) mv<|kv (g1 (decide_eq_true c)) geq ?_
   refine kv (g1 (decide_eq_false a)) (o8 (decide_eq_true c)) ?_
   refine k0 (n8 (decide_eq_false a)) ?_
   refine rn rfl<|d9<|l6 ?_
   exact aw hE [] (e.u (Nat.le_refl _) H)
  iterate 2 refine kx (hT (decide_eq_false c)) ?_
  refine kv (g1 (decide_eq_false a)) (n8 (decide_eq_false c)) ?_
  refine k0 (n8 (decide_eq_false a)) ?_
  refine rn rfl<|d9<|l6 ?_
  exact aw hE [] (e.u (Nat.le_refl _) H)
 refine jc1 (fun _ _=>H3.j0.eq_2 ..) fun s o t H=>?_
 obtain ⟨n,H⟩|⟨n,H⟩:=oi H
 ·refine iT n<|c9<|rn rfl<|d9<|j6<|c8<|d8<|c9<|rn rfl<|d9<|c8<|f7 ?_
  obtain rfl:=si H
  exact rt hE [(0,2)] (hr:=(D5 4 .nil))
 refine iF (bF n)<|c9<|rn rfl<|k0 min_ ?_
 refine rn rfl<|d9<|j6<|c8<|d8<|c9<|rn rfl<|d9<|c8<|f7 ?_
 obtain rfl:=si H
 exact rt hE [(0,2)] (hr:=(D5 4 .nil))
def C8.l0 : Nat→Y40→(List H7)→(List D3)→(List D1)→(List Int)→(List A2)→Int→(List Int)→(List C7)→Int→(List Int)→(List E9)→Int→(List H7)→Int→Y3
 | 0,_,_,_,_,_,_,_,_,_,_,_,_,_,_,_=>none
 | e + 1,g,h,i,j,k,l,m,n,o,p,q,r,d,b,a=>if a < (h.length : Int) then if 0≤a then (if a < (b.length : Int) then ((H3.f e ((V2 b a).f0) ((V2 b a).f1) ((V2 b a).f2) ((V2 b a).f3) d).bind fun c=>C8.l0 e g h i j k l m n o p q r d (b.set a.toNat (⟨c.1,c.2.1,c.2.2.1,c.2.2.2⟩ : H7)) (wrap64 (a + 1))) else none) else none else some (g,b,i,j,k,l,m,n,o,wrap64 (p + d),q,r)
def C8.f (k : Nat) (b : Y42) (a : List H7) (c : List D3) (d : List D1) (e : List Int) (g : List A2) (h : Int) (i : List Int) (j : List C7) (l : Int) (m : List Int) (n : List E9) (o : Int) : Y3:=C8.l0 k b a c d e g h i j l m n o a 0
theorem C8.ok (H : C8.f k e g i j l m n o p q s t b = some r) : j7 Tryz.prog 42 [(0,.box 37 [.row 1,.row 2,.row 3,.row 4,.row 5,.row 6,.lit (.int .i64 n),.row 7,.row 8,.lit (.int .i64 q),.row 9,.row 10]),(1,.row 102 1 (e.map (eL 1 (eL 4 (r8))))),(2,.row 50 4 (g.map M5)),(3,.row 48 5 (i.map L2)),(4,.row 96 6 (j.map I2)),(5,.row 3 1 (l.map (eI .i64))),(6,.row 116 6 (m.map C9)),(7,.row 3 1 (o.map (eI .i64))),(8,.row 108 3 (p.map F9)),(9,.row 3 1 (s.map (eI .i64))),(10,.row 42 4 (t.map M6))] [.box 0 0,.lit (.int .i64 b)] [(0,.box 37 [.row 1,.row 2,.row 3,.row 4,.row 5,.row 6,.lit (.int .i64 r.2.2.2.2.2.2.1),.row 7,.row 8,.lit (.int .i64 r.2.2.2.2.2.2.2.2.2.1),.row 9,.row 10]),(1,.row 102 1 (r.1.map (eL 1 (eL 4 (r8))))),(2,.row 50 4 (r.2.1.map M5)),(3,.row 48 5 (r.2.2.1.map L2)),(4,.row 96 6 (r.2.2.2.1.map I2)),(5,.row 3 1 (r.2.2.2.2.1.map (eI .i64))),(6,.row 116 6 (r.2.2.2.2.2.1.map C9)),(7,.row 3 1 (r.2.2.2.2.2.2.2.1.map (eI .i64))),(8,.row 108 3 (r.2.2.2.2.2.2.2.2.1.map F9)),(9,.row 3 1 (r.2.2.2.2.2.2.2.2.2.2.1.map (eI .i64))),(10,.row 42 4 (r.2.2.2.2.2.2.2.2.2.2.2.map M6))] (.tup []):=by
 refine u3 38 Tryz.func42 fun E hE=>?_
 rw [C8.f] at H
 refine d8<|c9<|rn rfl<|d9<|c8<|d8<|c9<|rn rfl<|k0 (lnR v7) ?_
 refine rn rfl<|d9<|c8<|j4 ?_
 refine V7 (fun k=>C8.l0 k e g i j l m n o p q s t b) (fun u v=>⟨[(0,.box 0 0),(1,.lit (.int .i64 b)),(18,.lit (.int .i64 (g.length : Int))),(19,.lit (.int .i64 v))],[(0,.box 37 [.row 1,.row 2,.row 3,.row 4,.row 5,.row 6,.lit (.int .i64 n),.row 7,.row 8,.lit (.int .i64 (wrap64 (q + b))),.row 9,.row 10]),(1,.row 102 1 (e.map (eL 1 (eL 4 (r8))))),(2,.row 50 4 (u.map M5)),(3,.row 48 5 (i.map L2)),(4,.row 96 6 (j.map I2)),(5,.row 3 1 (l.map (eI .i64))),(6,.row 116 6 (m.map C9)),(7,.row 3 1 (o.map (eI .i64))),(8,.row 108 3 (p.map F9)),(9,.row 3 1 (s.map (eI .i64))),(10,.row 42 4 (t.map M6))]⟩) H (fun _ h=>aw hE [] h) (fun _ _ _=>C8.l0.eq_2 ..) fun B u v C H D x=>?_
 refine d8<|c9<|rn rfl<|d9<|c8<|d8 ?_
 obtain ⟨w,H⟩|⟨w,H⟩:=oi H
 ·refine iT (decide_eq_true w)<|i9<|c8<|d8<|j4<|d8<|c9<|rn rfl<|d9<|c8<|c9<|rn rfl ?_
  obtain ⟨c,H⟩:=i8 H
  obtain ⟨d,H⟩:=i8 H
  refine k0 (iR c d)<|k0 (qA 4 c d) ?_
  refine rn rfl ?_
  obtain ⟨a,y,H⟩:=f6 H
  refine kC (cl ((H3.ok y).frz (.agg [.sl .n 4 (a.1.map I1),.lit (.int .i64 a.2.1),.lit (.int .i64 a.2.2.1),.lit (.int .i64 a.2.2.2)])) [])<|k0 (iR c d)<|k2 (stE 4 (M5 (⟨a.1,a.2.1,a.2.2.1,a.2.2.2⟩ : H7)) ((u.set v.toNat (⟨a.1,a.2.1,a.2.2.1,a.2.2.2⟩ : H7)).map M5) (ab9 (z:=z50) c d) af4)<|ed<|j6<|c8<|c9 ?_
  refine rn rfl<|d9<|l6 ?_
  exact aw hE [] (x (Nat.le_refl _) H)
 refine iF (decide_eq_false w)<|m6<|j5<|j5<|n7 rfl ?_
 obtain rfl:=si H
 refine af3 ?_
 exact rt hE []
def ab3.f (b : List u5) (c : Int) (d : Int) (e : Int) : Option ((List u5)×Int×Int×Int×Int×Int×Int×Int×Bool):=(I8.f b c d e).bind fun a=>if (a.1.length : Int) > 0 then (if 0 < (a.1.length : Int) then if 1≤(a.1.length : Int) then ((K1.f (a.1.drop 1)).bind fun g=>some (g,a.2.1,a.2.2.1,a.2.2.2,(H2 a.1 0).f0,(H2 a.1 0).f1,(H2 a.1 0).f2,(H2 a.1 0).f3,true)) else none else none) else if a.2.2.1 = 0 then some (a.1,a.2.1,a.2.2.1,a.2.2.2,0,0,0,0,false) else some (a.1,a.2.1,0,a.2.2.2,2,0,0,a.2.2.1,true)
theorem ab3.ok (H : ab3.f d e g h = some r) : j7 Tryz.prog 196 [] [.agg [.sl .o 4 (d.map I1),.lit (.int .i64 e),.lit (.int .i64 g),.lit (.int .i64 h)]] [(0,.row 46 4 (r.1.map I1))] (.tup [.agg [.row 0,.lit (.int .i64 r.2.1),.lit (.int .i64 r.2.2.1),.lit (.int .i64 r.2.2.2.1)],.agg [.lit (.int .i64 r.2.2.2.2.1),.lit (.int .i64 r.2.2.2.2.2.1),.lit (.int .i64 r.2.2.2.2.2.2.1),.lit (.int .i64 r.2.2.2.2.2.2.2.1)],.lit (.bool r.2.2.2.2.2.2.2.2)]):=by
 refine u3 38 Tryz.func196 fun E hE=>?_
 rw [ab3.f] at H
 refine d8<|c9<|k1 (K2 0)<|k1 (al 1)<|k1 (al 2) ?_
 refine rn rfl<|d9<|c8<|d8<|c9<|rn rfl ?_
 obtain ⟨l,i,H⟩:=f6 H
 refine kC (cl (I8.ok i) [3])<|k1 (al 4) ?_
 refine rn rfl<|d9<|c8<|d8<|j4<|d8<|c9<|rn rfl<|k0 (lnR v7) ?_
 refine rn rfl<|d9<|c8 ?_
 obtain ⟨a,H⟩|⟨a,H⟩:=oi H
 ·refine iT (decide_eq_true a)<|d8<|c9<|rn rfl ?_
  obtain ⟨c,H⟩:=i8 H
  refine k0 (iR (by decide : (0 : Int)≤0) c)<|k0 (qA 4 (by decide : (0 : Int)≤0) c)<|k1 (al 5) ?_
  refine rn rfl<|d9<|c8<|d8<|c9<|rn rfl ?_
  obtain ⟨j,H⟩:=i8 H
  refine k0 (srL 46 (by decide : (0 : Int)≤1) j) ?_
  obtain ⟨m,k,H⟩:=f6 H
  refine kC (cl (K1.ok k) [6] .n (hargs:=by rw [← bJ4];rfl)) ?_
  refine rn rfl<|d9<|c8<|d8<|c9<|rn rfl<|ed<|c8<|f7<|l7<|f8 ?_
  obtain rfl:=si H
  exact rt hE [(0,6)] (hr:=(D5 4 (D5 4 (.tmp .nil))))
 refine iF (decide_eq_false a)<|d8<|c9<|rn rfl<|d9<|c8 ?_
 obtain ⟨b,H⟩|⟨b,H⟩:=oi H
 ·refine iF (eM b)<|i9<|j6<|c8<|d8<|c9<|rn rfl<|d9<|c8<|f7 ?_
  obtain rfl:=si H
  exact rt hE [(0,3)] (hr:=(D5 4 (D5 4 (.tmp .nil))))
 refine iT (eN b)<|d8<|c9<|rn rfl<|k1 (al 7) ?_
 refine rn rfl<|d9<|c8<|d8<|c9<|rn rfl<|d9<|c8<|d8<|c9<|rn rfl<|ed<|c8<|f7<|l7<|f8 ?_
 obtain rfl:=si H
 exact rt hE [(0,3)] (hr:=(D5 4 (D5 4 (.tmp .nil))))
def aa4.f (a : Int) : P0:=(j8.f a 0 2).bind fun b=>some b
theorem aa4.ok (H : aa4.f a = some r) : j7 Tryz.prog 198 [] [.lit (.int .i64 a)] [] (.lit (.bool r)):=by
 refine u3 5 Tryz.func198 fun E hE=>?_
 rw [aa4.f] at H
 refine d8<|c9<|rn rfl<|d9<|c8<|d8<|c9<|rn rfl ?_
 obtain ⟨c,b,H⟩:=f6 H
 refine kC (cl (j8.ok b) []) ?_
 refine rn rfl<|d9<|c8<|f7 ?_
 obtain rfl:=si H
 exact rt hE []
def L8.f (k : Nat) (c : Int) (d : Int) (b : List u5) (e : Int) (a : Int) : P0:=(aa4.f c).bind fun g=>(if g = true then ((j8.f d 1 1000000000).bind fun h=>(if h = true then (if (b.length : Int)≤3 then ((E7.f k b).bind fun i=>(if i = true then ((j8.f e 0 1000000000).bind fun j=>(if j = true then (if a = 1 then some true else (if a = 2 then some true else some (a == 4))) else some false)) else some false)) else some false) else some false)) else some false)
theorem L8.ok (H : L8.f k i j l m n = some r) : j7 Tryz.prog 131 [] [.agg [.lit (.int .i64 i),.lit (.int .i64 j),.sl .o 4 (l.map I1),.lit (.int .i64 m),.lit (.int .i64 n)]] [] (.lit (.bool r)):=by
 refine u3 42 Tryz.func131 fun E hE=>?_
 rw [L8.f] at H
 refine d8<|c9<|k1 (K2 0) ?_
 refine rn rfl<|d9<|c8<|d8<|c9<|rn rfl ?_
 obtain ⟨t,o,H⟩:=f6 H
 refine kC (cl (aa4.ok o) []) ?_
 refine rn rfl ?_
 obtain ⟨c,H⟩|⟨c,H⟩:=oi H
 ·refine kv (g1 c) (y8 1 1)<|kv (g1 c) B5 ?_
  obtain ⟨u,p,H⟩:=f6 H
  refine N5 (g1 c) (cl (j8.ok p) []) ?_
  refine k0 (o8 c) ?_
  refine rn rfl ?_
  obtain ⟨b,H⟩|⟨b,H⟩:=oi H
  ·refine kv (g1 b) (y8 2 2)<|kv (g1 b) B5<|kv (g1 b) (G3 v7)<|kv (g1 b) leq ?_
   refine k0 (o8 b) ?_
   refine rn rfl ?_
   obtain ⟨d,H⟩|⟨d,H⟩:=oi H
   ·refine kv (g1 (decide_eq_true d)) (y8 2 2)<|kv (g1 (decide_eq_true d)) B5 ?_
    obtain ⟨v,q,H⟩:=f6 H
    refine N5 (g1 (decide_eq_true d)) (cl (E7.ok q) []) ?_
    refine k0 (o8 (decide_eq_true d)) ?_
    refine rn rfl ?_
    obtain ⟨e,H⟩|⟨e,H⟩:=oi H
    ·refine kv (g1 e) (y8 3 3)<|kv (g1 e) B5 ?_
     obtain ⟨w,s,H⟩:=f6 H
     refine N5 (g1 e) (cl (j8.ok s) []) ?_
     refine k0 (o8 e) ?_
     refine rn rfl ?_
     obtain ⟨a,H⟩|⟨a,H⟩:=oi H
     ·refine kv (g1 a) (y8 4 4)<|kv (g1 a) B5<|kv (g1 a) eql<|kv (g1 a) mv ?_
      obtain ⟨g,H⟩|⟨g,H⟩:=oi H
      ·iterate 3 refine kx (hF (eT g)) ?_
       refine kv (g1 a) (o8 (eT g))<|kv (g1 a) mv ?_
       iterate 3 refine kx (hF rfl) ?_
       refine kv (g1 a) (o8 rfl) ?_
       refine k0 (o8 a) ?_
       refine rn rfl<|d9<|c8<|f7 ?_
       obtain rfl:=si H
       exact rt hE []
      refine kv (g1 (eF g)) (y8 4 4)<|kv (g1 (eF g)) B5<|kv (g1 (eF g)) eql ?_
      refine kv (g1 a) (n8 (eF g))<|kv (g1 a) mv ?_
      obtain ⟨h,H⟩|⟨h,H⟩:=oi H
      ·iterate 3 refine kx (hF (eT h)) ?_
       refine kv (g1 a) (o8 (eT h)) ?_
       refine k0 (o8 a) ?_
       refine rn rfl<|d9<|c8<|f7 ?_
       obtain rfl:=si H
       exact rt hE []
      refine kv (g1 (eF h)) (y8 4 4)<|kv (g1 (eF h)) B5<|kv (g1 (eF h)) eql ?_
      refine kv (g1 a) (n8 (eF h)) ?_
      refine k0 (o8 a) ?_
      refine rn rfl<|d9<|c8<|f7 ?_
      obtain rfl:=si H
      exact rt hE []
     iterate 3 refine kx (hT (bF a)) ?_
     refine ku (neT (hT (bF a))) ?_
     iterate 3 refine ku neU ?_
     refine kx (hT (bF a)) ?_
     refine ku (neT (hT (bF a))) ?_
     iterate 3 refine ku neU ?_
     refine kx (hT (bF a)) ?_
     refine k0 (n8 (bF a)) ?_
     refine rn rfl<|d9<|c8<|f7 ?_
     obtain rfl:=si H
     exact rt hE []
    iterate 3 refine kx (hT (bF e)) ?_
    refine k0 (n8 (bF e)) ?_
    refine rn rfl ?_
    iterate 3 refine kx (hT rfl) ?_
    refine ku (neT (hT rfl)) ?_
    iterate 3 refine ku neU ?_
    refine kx (hT rfl) ?_
    refine ku (neT (hT rfl)) ?_
    iterate 3 refine ku neU ?_
    refine kx (hT rfl) ?_
    refine k0 (n8 rfl) ?_
    refine rn rfl<|d9<|c8<|f7 ?_
    obtain rfl:=si H
    exact rt hE []
   iterate 3 refine kx (hT (decide_eq_false d)) ?_
   refine k0 (n8 (decide_eq_false d)) ?_
   refine rn rfl ?_
   iterate 3 refine kx (hT rfl) ?_
   refine k0 (n8 rfl) ?_
   refine rn rfl ?_
   iterate 3 refine kx (hT rfl) ?_
   refine ku (neT (hT rfl)) ?_
   iterate 3 refine ku neU ?_
   refine kx (hT rfl) ?_
   refine ku (neT (hT rfl)) ?_
   iterate 3 refine ku neU ?_
   refine kx (hT rfl) ?_
   refine k0 (n8 rfl) ?_
   refine rn rfl<|d9<|c8<|f7 ?_
   obtain rfl:=si H
   exact rt hE []
  iterate 4 refine kx (hT (bF b)) ?_
  refine k0 (n8 (bF b)) ?_
  refine rn rfl ?_
  iterate 3 refine kx (hT rfl) ?_
  refine k0 (n8 rfl) ?_
  refine rn rfl ?_
  iterate 3 refine kx (hT rfl) ?_
  refine k0 (n8 rfl) ?_
  refine rn rfl ?_
  iterate 3 refine kx (hT rfl) ?_
  refine ku (neT (hT rfl)) ?_
  iterate 3 refine ku neU ?_
  refine kx (hT rfl) ?_
  refine ku (neT (hT rfl)) ?_
  iterate 3 refine ku neU ?_
  refine kx (hT rfl) ?_
  refine k0 (n8 rfl) ?_
  refine rn rfl<|d9<|c8<|f7 ?_
  obtain rfl:=si H
  exact rt hE []
 iterate 3 refine kx (hT (bF c)) ?_
 refine k0 (n8 (bF c)) ?_
 refine rn rfl ?_
 iterate 4 refine kx (hT rfl) ?_
 refine k0 (n8 rfl) ?_
 refine rn rfl ?_
 iterate 3 refine kx (hT rfl) ?_
 refine k0 (n8 rfl) ?_
 refine rn rfl ?_
 iterate 3 refine kx (hT rfl) ?_
 refine k0 (n8 rfl) ?_
 refine rn rfl ?_
 iterate 3 refine kx (hT rfl) ?_
 refine ku (neT (hT rfl)) ?_
 iterate 3 refine ku neU ?_
 refine kx (hT rfl) ?_
 refine ku (neT (hT rfl)) ?_
 iterate 3 refine ku neU ?_
 refine kx (hT rfl) ?_
 refine k0 (n8 rfl) ?_
 refine rn rfl<|d9<|c8<|f7 ?_
 obtain rfl:=si H
 exact rt hE []
end Go.Proofs.YtahmbcgolnplgaaGreat.PFnNoHoles
