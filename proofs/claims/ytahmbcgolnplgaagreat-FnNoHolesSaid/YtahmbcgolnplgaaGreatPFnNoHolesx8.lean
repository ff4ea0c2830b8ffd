import Derived.Test.YtahmbcgolnplgaaGreatPFnNoHolesx7
set_option linter.unusedVariables false
set_option linter.unusedSimpArgs false
set_option autoImplicit true
set_option relaxedAutoImplicit true
set_option maxRecDepth 100000
set_option maxHeartbeats 4000000
namespace Go.Proofs.YtahmbcgolnplgaaGreat.PFnNoHoles
open Go Go.RowKit Go.Proofs.YtahmbcgolnplgaaGreatA
mutual
def F0.j0 : Nat→Int→Int→Int→Int→Int→Int→Int→((List D1)×(List Int)×(List A2)×Int×(List Int))→Bool→Y9
 | 0,_,_,_,_,_,_,_,_,_=>none
 | p + 1,m,d,h,i,j,k,l,c,o=>if o = true then (if c.2.2.1.length + ([(⟨d,h,(⟨i,j,k,l⟩ : u5)⟩ : A2)] : List A2).length < 2932031007402 then some (c.1,c.2.1,c.2.2.1 ++ ([(⟨d,h,(⟨i,j,k,l⟩ : u5)⟩ : A2)] : List A2),c.2.2.2.1,c.2.2.2.2,false) else none) else some (c.1,c.2.1,c.2.2.1,c.2.2.2.1,c.2.2.2.2,false)
def F0.l0 : Nat→Int→Int→Int→Int→Int→Int→Int→((List D1)×(List Int)×(List A2)×Int×(List Int))→(List D1)→(List Int)→(List A2)→Y9
 | 0,_,_,_,_,_,_,_,_,_,_,_=>none
 | n + 1,m,d,h,i,j,k,l,c,g,e,a=>if (g.length : Int) < 200 then if d < (e.length : Int) then ((F5.f n a d (rd e d)).bind fun b=>if b < 0 then some (g,e,a,c.2.2.2.1,c.2.2.2.2,true) else if 0≤b then (if b < (a.length : Int) then if b≤(a.length : Int) then (if 0≤(wrap64 (b + 1)) then (if (wrap64 (b + 1))≤(a.length : Int) then (if (a.take b.toNat).length + (a.drop (wrap64 (b + 1)).toNat).length < 2932031007402 then if g.length + ([(⟨(J4 a b).f0,(J4 a b).f1,(⟨(J4 a b).f2.f0,(J4 a b).f2.f1,(J4 a b).f2.f2,(J4 a b).f2.f3⟩ : u5)⟩ : D1)] : List D1).length < 2932031007402 then F0.l0 n m d h i j k l c (g ++ ([(⟨(J4 a b).f0,(J4 a b).f1,(⟨(J4 a b).f2.f0,(J4 a b).f2.f1,(J4 a b).f2.f2,(J4 a b).f2.f3⟩ : u5)⟩ : D1)] : List D1)) (e.set d.toNat (wrap64 ((rd e d) + 1))) ((a.take b.toNat) ++ (a.drop (wrap64 (b + 1)).toNat)) else none else none) else none) else none) else none else none) else none) else none else some (g,e,a,c.2.2.2.1,c.2.2.2.2,true)
end
def F0.f (k : Nat) (m : List D1) (j : List Int) (l : List A2) (n : Int) (o : List Int) (i : Int) (b : Int) (c : Int) (d : Int) (e : Int) (g : Int) (h : Int) : Y9:=(I5.f m j l n o).bind fun a=>(P8.f i b c d e g h).bind fun p=>(if p = true then (if i = 1 then (if b ≥ (j.length : Int) then some (a.1,a.2.1,a.2.2.1,a.2.2.2.1,a.2.2.2.2,false) else if (m.length : Int) ≥ 200 then some (a.1,a.2.1,a.2.2.1,a.2.2.2.1,a.2.2.2.2,false) else if 0≤b then (if b < (j.length : Int) then if c = (rd j b) then if a.1.length + ([(⟨b,c,(⟨d,e,g,h⟩ : u5)⟩ : D1)] : List D1).length < 2932031007402 then if b < (a.2.1.length : Int) then F0.l0 k i b c d e g h a (a.1 ++ ([(⟨b,c,(⟨d,e,g,h⟩ : u5)⟩ : D1)] : List D1)) (a.2.1.set b.toNat (wrap64 ((rd a.2.1 b) + 1))) a.2.2.1 else none else none else (if c > (rd j b) then (if c≤(wrap64 ((rd j b) + 3)) then ((F5.f k l b c).bind fun q=>(if q < 0 then F0.j0 k i b c d e g h a (decide ((l.length : Int) < 3)) else F0.j0 k i b c d e g h a false)) else F0.j0 k i b c d e g h a false) else F0.j0 k i b c d e g h a false) else none) else none) else some (a.1,a.2.1,a.2.2.1,a.2.2.2.1,a.2.2.2.2,false)) else some (a.1,a.2.1,a.2.2.1,a.2.2.2.1,a.2.2.2.2,false))
theorem F0.ok (H : F0.f k O P Q R T v b j l m n o = some r) : j7 Tryz.prog 46 [] [.agg [.sl .o 6 (O.map I2),.sl .o 1 (P.map (eI .i64)),.sl .o 6 (Q.map C9),.lit (.int .i64 R),.sl .o 1 (T.map (eI .i64))],.agg [.lit (.int .i64 v),.lit (.int .i64 b),.lit (.int .i64 j),.lit (.int .i64 l),.lit (.int .i64 m),.lit (.int .i64 n),.lit (.int .i64 o)]] [(0,.row 96 6 (r.1.map I2)),(1,.row 3 1 (r.2.1.map (eI .i64))),(2,.row 116 6 (r.2.2.1.map C9)),(3,.row 3 1 (r.2.2.2.2.1.map (eI .i64)))] (.tup [.agg [.row 0,.row 1,.row 2,.lit (.int .i64 r.2.2.2.1),.row 3],.lit (.bool r.2.2.2.2.2)]):=by
 refine u3 159 Tryz.func46 fun E hE=>?_
 rw [F0.f] at H
 refine d8<|c9<|k1 (K2 0)<|k1 (K2 1)<|k1 (al 2) ?_
 refine rn rfl<|d9<|c8<|d8<|c9<|rn rfl ?_
 obtain ⟨c,U,H⟩:=f6 H
 refine kC (cl (I5.ok U) [3,4,5,6])<|k1 (al 7) ?_
 refine rn rfl<|d9<|c8<|d8<|d8<|c9<|rn rfl ?_
 obtain ⟨a6,V,H⟩:=f6 H
 refine kC (cl (P8.ok V) []) ?_
 refine rn rfl ?_
 obtain ⟨t,H⟩|⟨t,H⟩:=oi H
 ·refine kv (g1 (nF t)) (y8 0 0)<|kv (g1 (nF t)) B5<|kv (g1 (nF t)) neq ?_
  refine k0 (n8 (nF t)) ?_
  refine rn rfl ?_
  obtain ⟨i,H⟩|⟨i,H⟩:=oi H
  ·refine kv (g1 (eM i)) (y8 1 1)<|kv (g1 (eM i)) B5<|kv (g1 (eM i)) (y8 1 1)<|kv (g1 (eM i)) B5<|kv (g1 (eM i)) (G3 v7)<|kv (g1 (eM i)) geq ?_
   refine k0 (n8 (eM i)) ?_
   refine rn rfl ?_
   obtain ⟨q,H⟩|⟨q,H⟩:=oi H
   ·iterate 4 refine kx (hF (decide_eq_true q)) ?_
    refine k0 (o8 (decide_eq_true q))<|d9<|c8<|iT rfl<|d8<|c9 ?_
    refine rn rfl<|d9<|c8<|f7<|f8 ?_
    obtain rfl:=si H
    exact rt hE [(0,3),(1,4),(2,5),(3,6)] (hr:=(D5 5 (.tmp .nil)))
   refine kv (g1 (decide_eq_false q)) (y8 0 0)<|kv (g1 (decide_eq_false q)) B5<|kv (g1 (decide_eq_false q)) (G3 v7)<|kv (g1 (decide_eq_false q)) geq ?_
   refine k0 (n8 (decide_eq_false q))<|d9<|c8 ?_
   obtain ⟨B,H⟩|⟨B,H⟩:=oi H
   ·refine iT (decide_eq_true B)<|d8<|c9<|rn rfl<|d9<|c8<|f7<|f8 ?_
    obtain rfl:=si H
    exact rt hE [(0,3),(1,4),(2,5),(3,6)] (hr:=(D5 5 (.tmp .nil)))
   refine iF (decide_eq_false B)<|i9<|c8<|d8<|c9<|rn rfl ?_
   obtain ⟨g,H⟩:=i8 H
   obtain ⟨W,H⟩:=i8 H
   refine k0 (iS g W) ?_
   refine rn rfl<|d9<|c8<|d8<|d8<|c9<|rn rfl<|d9<|c8 ?_
   obtain ⟨C,H⟩|⟨C,H⟩:=oi H
   ·refine iF (eM C)<|i9<|c8<|d8<|c9<|rn rfl<|k1 (u7 10 96 6 [.int .i64 0,.int .i64 0,.int .i64 0,.int .i64 0,.int .i64 0,.int .i64 0] (([(⟨b,j,(⟨l,m,n,o⟩ : u5)⟩ : D1)] : List D1).map I2)) ?_
    obtain ⟨X,H⟩:=i8 H
    refine k3 (D7 11 96 6 48 [.int .i64 0,.int .i64 0,.int .i64 0,.int .i64 0,.int .i64 0,.int .i64 0] ((c.1 ++ ([(⟨b,j,(⟨l,m,n,o⟩ : u5)⟩ : D1)] : List D1)).map I2) (.row rfl) (D8 X rfl) z7) ?_
    refine rn rfl<|d9<|c8<|d8<|c9<|rn rfl ?_
    obtain ⟨x,H⟩:=i8 H
    refine k0 (iR g x)<|k0 (qL g x) ?_
    refine rn rfl<|k0 (iR g x)<|k2 (stE 1 (eI .i64 (wrap64 ((rd c.2.1 b) + 1))) ((c.2.1.set b.toNat (wrap64 ((rd c.2.1 b) + 1))).map (eI .i64)) (ab9 (z:=(0 : Int)) g x) af4)<|d9<|c8<|d8<|j4 ?_
    refine lp3 (fun k=>F0.l0 k v b j l m n o c) (fun D w a=>⟨[(3,.box 1 0),(4,.box 2 0),(6,.box 7 0)],[(1,.box 88 [.lit (.int .i64 v),.lit (.int .i64 b),.lit (.int .i64 j),.lit (.int .i64 l),.lit (.int .i64 m),.lit (.int .i64 n),.lit (.int .i64 o)]),(2,.box 33 [.lit (.slice none 0 0),.lit (.slice none 0 0),.lit (.slice none 0 0),.lit (.int .i64 0),.lit (.slice none 0 0)]),(4,.row 3 1 (w.map (eI .i64))),(5,.row 116 6 (a.map C9)),(6,.row 3 1 (c.2.2.2.2.map (eI .i64))),(7,.box 33 [.row 11,.row 4,.row 5,.lit (.int .i64 c.2.2.2.1),.row 6]),(11,.row 96 6 (D.map I2))]⟩) H (fun _ h=>aw hE [] h) (fun _ _ _ _=>F0.l0.eq_2 ..) fun a7 D w a a8 H a9 Y=>?_
    refine d8<|d8<|c9<|rn rfl<|k0 (lnR v7) ?_
    refine rn rfl<|d9<|c8 ?_
    obtain ⟨F,H⟩|⟨F,H⟩:=oi H
    ·refine iT (decide_eq_true F)<|i9<|c8<|j4<|d8<|c9<|rn rfl ?_
     obtain ⟨u,H⟩:=i8 H
     refine k0 (iR g u)<|k0 (qL g u) ?_
     obtain ⟨d,Z,H⟩:=f6 H
     refine kC (cl (F5.ok Z) []) ?_
     refine rn rfl<|ed<|c8<|d8<|d8<|c9<|rn rfl<|d9<|c8 ?_
     obtain ⟨G,H⟩|⟨G,H⟩:=oi H
     ·refine iT (decide_eq_true G)<|m6<|j5<|aY4 rfl<|j5<|n7 rfl<|c8<|d8<|c9<|rn rfl<|d9<|c8<|f7 ?_
      obtain rfl:=si H
      exact rt hE [(0,11),(1,4),(2,5),(3,6)] (hr:=(D5 5 (.tmp .nil)))
     refine iF (decide_eq_false G)<|i9<|c8<|d8<|c9<|rn rfl ?_
     obtain ⟨I,H⟩:=i8 H
     obtain ⟨M,H⟩:=i8 H
     refine k0 (iR I M)<|k0 (qA 6 I M)<|k1 (al 12) ?_
     refine rn rfl<|d9<|c8<|d8<|c9<|rn rfl ?_
     obtain ⟨K,H⟩:=i8 H
     refine k0 (srH 116 I K) ?_
     refine rn rfl ?_
     obtain ⟨a0,H⟩:=i8 H
     obtain ⟨a1,H⟩:=i8 H
     refine k0 (srL 116 a0 a1) ?_
     obtain ⟨a2,H⟩:=i8 H
     refine k3 (apS 13 116 6 48 [.int .i64 0,.int .i64 0,.int .i64 0,.int .i64 0,.int .i64 0,.int .i64 0] (((a.take d.toNat) ++ (a.drop (wrap64 (d + 1)).toNat)).map C9) (frl K) (nwS rfl bJ4) (cc7 a2 (cf7 K) rfl) cc8) ?_
     refine rn rfl<|ed<|c8<|d8<|c9<|rn rfl<|k1 (u7 14 96 6 [.int .i64 0,.int .i64 0,.int .i64 0,.int .i64 0,.int .i64 0,.int .i64 0] (([(⟨(J4 a d).f0,(J4 a d).f1,(⟨(J4 a d).f2.f0,(J4 a d).f2.f1,(J4 a d).f2.f2,(J4 a d).f2.f3⟩ : u5)⟩ : D1)] : List D1).map I2)) ?_
     obtain ⟨a3,H⟩:=i8 H
     refine k3 (D7 15 96 6 48 [.int .i64 0,.int .i64 0,.int .i64 0,.int .i64 0,.int .i64 0,.int .i64 0] ((D ++ ([(⟨(J4 a d).f0,(J4 a d).f1,(⟨(J4 a d).f2.f0,(J4 a d).f2.f1,(J4 a d).f2.f2,(J4 a d).f2.f3⟩ : u5)⟩ : D1)] : List D1)).map I2) (.row rfl) (D8 a3 rfl) z7) ?_
     refine rn rfl<|d9<|c8<|c9<|rn rfl<|k0 (iR g u)<|k0 (qL g u) ?_
     refine rn rfl<|k0 (iR g u)<|k2 (stE 1 (eI .i64 (wrap64 ((rd w b) + 1))) ((w.set b.toNat (wrap64 ((rd w b) + 1))).map (eI .i64)) (ab9 (z:=(0 : Int)) g u) af4)<|d9<|j6<|l6 ?_
     exact aw hE [(5,13),(11,15)] (Y (Nat.le_refl _) H)
    refine iF (decide_eq_false F)<|m6<|j5<|j5<|n7 rfl<|c8<|d8<|c9<|rn rfl<|d9<|c8<|f7 ?_
    obtain rfl:=si H
    exact rt hE [(0,11),(1,4),(2,5),(3,6)] (hr:=(D5 5 (.tmp .nil)))
   refine iT (eN C)<|d8 ?_
   refine H0 (J:=Jc1 E 159 r k (fun k=>F0.j0 k v b j l m n o c) (fun N=>⟨[(3,.box 1 0),(4,.box 2 0),(6,.box 7 0),(71,.lit (.bool N))],[(1,.box 88 [.lit (.int .i64 v),.lit (.int .i64 b),.lit (.int .i64 j),.lit (.int .i64 l),.lit (.int .i64 m),.lit (.int .i64 n),.lit (.int .i64 o)]),(2,.box 33 [.lit (.slice none 0 0),.lit (.slice none 0 0),.lit (.slice none 0 0),.lit (.int .i64 0),.lit (.slice none 0 0)]),(3,.row 96 6 (c.1.map I2)),(4,.row 3 1 (c.2.1.map (eI .i64))),(5,.row 116 6 (c.2.2.1.map C9)),(6,.row 3 1 (c.2.2.2.2.map (eI .i64))),(7,.box 33 [.row 3,.row 4,.row 5,.lit (.int .i64 c.2.2.2.1),.row 6])]⟩)) ?_ ?_
   ·intro aA y
    refine c9<|rn rfl ?_
    obtain ⟨p,H⟩|⟨p,H⟩:=oi H
    ·refine kv (g1 (decide_eq_true p)) (y8 2 2)<|kv (g1 (decide_eq_true p)) B5<|kv (g1 (decide_eq_true p)) mv<|kv (g1 (decide_eq_true p)) aA4<|kv (g1 (decide_eq_true p)) leq ?_
     refine k0 (o8 (decide_eq_true p)) ?_
     refine rn rfl ?_
     obtain ⟨e,H⟩|⟨e,H⟩:=oi H
     ·refine kv (g1 (decide_eq_true e)) (y8 2 2)<|kv (g1 (decide_eq_true e)) B5<|kv (g1 (decide_eq_true e)) (y8 1 1)<|kv (g1 (decide_eq_true e)) B5<|kv (g1 (decide_eq_true e)) (y8 2 2)<|kv (g1 (decide_eq_true e)) B5 ?_
      obtain ⟨aB,a4,H⟩:=f6 H
      refine N5 (g1 (decide_eq_true e)) (cl (F5.ok a4) [])<|kv (g1 (decide_eq_true e)) lss ?_
      refine k0 (o8 (decide_eq_true e)) ?_
      refine rn rfl ?_
      obtain ⟨s,H⟩|⟨s,H⟩:=oi H
      ·refine kv (g1 (decide_eq_true s)) (y8 2 2)<|kv (g1 (decide_eq_true s)) B5<|kv (g1 (decide_eq_true s)) (G3 v7)<|kv (g1 (decide_eq_true s)) lss ?_
       refine k0 (o8 (decide_eq_true s))<|d9<|l6 ?_
       exact aw hE [] (y.u (Nat.le_refl _) H)
      iterate 4 refine kx (hT (decide_eq_false s)) ?_
      refine k0 (n8 (decide_eq_false s))<|d9<|l6 ?_
      exact aw hE [] (y.u (Nat.le_refl _) H)
     iterate 8 refine kx (hT (decide_eq_false e)) ?_
     refine k0 (n8 (decide_eq_false e)) ?_
     refine rn rfl ?_
     iterate 4 refine kx (hT rfl) ?_
     refine k0 (n8 rfl)<|d9<|l6 ?_
     exact aw hE [] (y.u (Nat.le_refl _) H)
    iterate 5 refine kx (hT (decide_eq_false p)) ?_
    refine k0 (n8 (decide_eq_false p)) ?_
    refine rn rfl ?_
    iterate 8 refine kx (hT rfl) ?_
    refine k0 (n8 rfl) ?_
    refine rn rfl ?_
    iterate 4 refine kx (hT rfl) ?_
    refine k0 (n8 rfl)<|d9<|l6 ?_
    exact aw hE [] (y.u (Nat.le_refl _) H)
   refine jc1 (fun _ _=>F0.j0.eq_2 ..) fun aC N aD H=>?_
   obtain ⟨L,H⟩|⟨L,H⟩:=oi H
   ·refine iT L<|c9<|rn rfl<|k1 (u7 8 116 6 [.int .i64 0,.int .i64 0,.int .i64 0,.int .i64 0,.int .i64 0,.int .i64 0] (([(⟨b,j,(⟨l,m,n,o⟩ : u5)⟩ : A2)] : List A2).map C9)) ?_
    obtain ⟨a5,H⟩:=i8 H
    refine k3 (D7 9 116 6 48 [.int .i64 0,.int .i64 0,.int .i64 0,.int .i64 0,.int .i64 0,.int .i64 0] ((c.2.2.1 ++ ([(⟨b,j,(⟨l,m,n,o⟩ : u5)⟩ : A2)] : List A2)).map C9) (.row rfl) (D8 a5 rfl) z7) ?_
    refine rn rfl<|d9<|c8<|d8<|c9<|rn rfl<|d9<|c8<|f7<|f8 ?_
    obtain rfl:=si H
    exact rt hE [(0,3),(1,4),(2,9),(3,6)] (hr:=(D5 5 (.tmp .nil)))
   refine iF (bF L)<|i9<|c8<|d8<|c9<|rn rfl<|d9<|c8<|f7<|f8 ?_
   obtain rfl:=si H
   exact rt hE [(0,3),(1,4),(2,5),(3,6)] (hr:=(D5 5 (.tmp .nil)))
  iterate 6 refine kx (hF (eN i)) ?_
  refine k0 (o8 (eN i)) ?_
  refine rn rfl ?_
  iterate 4 refine kx (hF rfl) ?_
  refine k0 (o8 rfl)<|d9<|c8<|iT rfl<|d8<|c9 ?_
  refine rn rfl<|d9<|c8<|f7<|f8 ?_
  obtain rfl:=si H
  exact rt hE [(0,3),(1,4),(2,5),(3,6)] (hr:=(D5 5 (.tmp .nil)))
 iterate 3 refine kx (hF (nT (bF t))) ?_
 refine k0 (o8 (nT (bF t))) ?_
 refine rn rfl ?_
 iterate 6 refine kx (hF rfl) ?_
 refine k0 (o8 rfl) ?_
 refine rn rfl ?_
 iterate 4 refine kx (hF rfl) ?_
 refine k0 (o8 rfl)<|d9<|c8<|iT rfl<|d8<|c9 ?_
 refine rn rfl<|d9<|c8<|f7<|f8 ?_
 obtain rfl:=si H
 exact rt hE [(0,3),(1,4),(2,5),(3,6)] (hr:=(D5 5 (.tmp .nil)))
def Z8.f (k : Nat) (e : Int) (b : Int) (c : List u5) (g : Int) (h : Int) (d : Int) : Y23:=(F3.f e b c g h).bind fun a=>(L8.f k e b c g h).bind fun i=>(if i = true then ((j8.f d (wrap64 (b + 1)) (wrap64 (b + (c.length : Int)))).bind fun j=>if j = true then if 0≤(wrap64 (d - b)) then (if (wrap64 (d - b))≤(c.length : Int) then ((K1.f (c.drop (wrap64 (d - b)).toNat)).bind fun l=>some (a.1,d,l,a.2.2.2.1,1)) else none) else none else some (a.1,a.2.1,a.2.2.1,a.2.2.2.1,a.2.2.2.2)) else some (a.1,a.2.1,a.2.2.1,a.2.2.2.1,a.2.2.2.2))
theorem Z8.ok (H : Z8.f k c d e g h i = some r) : j7 Tryz.prog 49 [] [.agg [.lit (.int .i64 c),.lit (.int .i64 d),.sl .o 4 (e.map I1),.lit (.int .i64 g),.lit (.int .i64 h)],.lit (.int .i64 i)] [(0,.row 46 4 (r.2.2.1.map I1))] (.agg [.lit (.int .i64 r.1),.lit (.int .i64 r.2.1),.row 0,.lit (.int .i64 r.2.2.2.1),.lit (.int .i64 r.2.2.2.2)]):=by
 refine u3 39 Tryz.func49 fun E hE=>?_
 rw [Z8.f] at H
 refine d8<|c9<|k1 (K2 0)<|k1 (al 1)<|d9<|c8<|d8<|c9 ?_
 refine rn rfl ?_
 obtain ⟨q,j,H⟩:=f6 H
 refine kC (cl (F3.ok j) [2])<|k1 (al 3) ?_
 refine rn rfl<|d9<|c8<|d8<|d8<|c9<|rn rfl ?_
 obtain ⟨s,l,H⟩:=f6 H
 refine kC (cl (L8.ok l) []) ?_
 refine rn rfl ?_
 obtain ⟨a,H⟩|⟨a,H⟩:=oi H
 ·refine kv (g1 (nF a)) mv<|kv (g1 (nF a)) (y8 1 1)<|kv (g1 (nF a)) B5<|kv (g1 (nF a)) aA4<|kv (g1 (nF a)) (y8 1 1)<|kv (g1 (nF a)) B5<|kv (g1 (nF a)) (y8 2 2)<|kv (g1 (nF a)) B5<|kv (g1 (nF a)) (G3 v7)<|kv (g1 (nF a)) aA4 ?_
  obtain ⟨t,m,H⟩:=f6 H
  refine N5 (g1 (nF a)) (cl (j8.ok m) [])<|kv (g1 (nF a)) V4 ?_
  refine k0 (n8 (nF a))<|d9<|c8 ?_
  obtain ⟨b,H⟩|⟨b,H⟩:=oi H
  ·refine iF (nF b)<|i9<|c8<|d8<|c9<|rn rfl ?_
   obtain ⟨n,H⟩:=i8 H
   obtain ⟨o,H⟩:=i8 H
   refine k0 (slL 46 n o) ?_
   obtain ⟨u,p,H⟩:=f6 H
   refine kC (cl (K1.ok p) [4]) ?_
   refine rn rfl<|d9<|c8<|d8<|c9<|rn rfl<|d9<|c8<|d8<|c9<|rn rfl<|d9<|c8<|d8<|c9<|rn rfl<|d9<|c8<|f7 ?_
   obtain rfl:=si H
   exact rt hE [(0,4)] (hr:=(D5 5 .nil))
  refine iT (nT (bF b))<|d8<|c9<|rn rfl<|d9<|c8<|f7<|f8 ?_
  obtain rfl:=si H
  exact rt hE [(0,2)] (hr:=(D5 5 .nil))
 iterate 12 refine kx (hF (nT (bF a))) ?_
 refine k0 (o8 (nT (bF a)))<|d9<|c8<|iT rfl<|d8<|c9 ?_
 refine rn rfl<|d9<|c8<|f7<|f8 ?_
 obtain rfl:=si H
 exact rt hE [(0,2)] (hr:=(D5 5 .nil))
def O4.f (k : Nat) (e : Y42) (g : List H7) (b : List D3) (h : List D1) (i : List Int) (j : List A2) (l : Int) (m : List Int) (n : List C7) (o : Int) (p : List Int) (q : List E9) (r : Bool) (s : ByteArray) (t : Bool) : Y3:=(Q7.f k s).bind fun a=>if a.2.2.2.2.2.2.2 = true then if r = true then if a.1 = 2 then (if 0≤a.2.1 then (if a.2.1 < (b.length : Int) then ((Z8.f k ((I0 b a.2.1).f0) ((I0 b a.2.1).f1) ((I0 b a.2.1).f2) ((I0 b a.2.1).f3) ((I0 b a.2.1).f4) a.2.2.1).bind fun c=>some (e,g,b.set a.2.1.toNat (⟨c.1,c.2.1,c.2.2.1,c.2.2.2.1,c.2.2.2.2⟩ : D3),h,i,j,l,m,n,o,p,q)) else none) else none) else some (e,g,b,h,i,j,l,m,n,o,p,q) else ((F0.f k h i j l m a.1 a.2.1 a.2.2.1 a.2.2.2.1 a.2.2.2.2.1 a.2.2.2.2.2.1 a.2.2.2.2.2.2.1).bind fun d=>some (e,g,b,d.1,d.2.1,d.2.2.1,d.2.2.2.1,d.2.2.2.2.1,n,o,p,q)) else some (e,g,b,h,i,j,l,m,n,o,p,q)
theorem O4.ok (H : O4.f k l m j n o p b q s c t u v w x = some r) : j7 Tryz.prog 158 [(0,.box 37 [.row 1,.row 2,.row 3,.row 4,.row 5,.row 6,.lit (.int .i64 b),.row 7,.row 8,.lit (.int .i64 c),.row 9,.row 10]),(1,.row 102 1 (l.map (eL 1 (eL 4 (r8))))),(2,.row 50 4 (m.map M5)),(3,.row 48 5 (j.map L2)),(4,.row 96 6 (n.map I2)),(5,.row 3 1 (o.map (eI .i64))),(6,.row 116 6 (p.map C9)),(7,.row 3 1 (q.map (eI .i64))),(8,.row 108 3 (s.map F9)),(9,.row 3 1 (t.map (eI .i64))),(10,.row 42 4 (u.map M6))] [.box 0 0,.agg [.lit (.bool v),.lit (.string w),.lit (.bool x)]] [(0,.box 37 [.row 1,.row 2,.row 3,.row 11,.row 12,.row 13,.lit (.int .i64 r.2.2.2.2.2.2.1),.row 14,.row 8,.lit (.int .i64 r.2.2.2.2.2.2.2.2.2.1),.row 9,.row 10]),(1,.row 102 1 (r.1.map (eL 1 (eL 4 (r8))))),(2,.row 50 4 (r.2.1.map M5)),(3,.row 48 5 (r.2.2.1.map L2)),(4,.gone),(5,.gone),(6,.gone),(7,.gone),(8,.row 108 3 (r.2.2.2.2.2.2.2.2.1.map F9)),(9,.row 3 1 (r.2.2.2.2.2.2.2.2.2.2.1.map (eI .i64))),(10,.row 42 4 (r.2.2.2.2.2.2.2.2.2.2.2.map M6)),(11,.row 96 6 (r.2.2.2.1.map I2)),(12,.row 3 1 (r.2.2.2.2.1.map (eI .i64))),(13,.row 116 6 (r.2.2.2.2.2.1.map C9)),(14,.row 3 1 (r.2.2.2.2.2.2.2.1.map (eI .i64)))] (.tup []):=by
 refine u3 53 Tryz.func158 fun E hE=>?_
 rw [O4.f] at H
 refine d8<|c9<|k1 (K2 11)<|d9<|c8<|d8<|c9 ?_
 refine rn rfl ?_
 obtain ⟨y,B,H⟩:=f6 H
 refine kC (cl (Q7.ok B) []) ?_
 refine rn rfl<|k1 (al 12) ?_
 refine rn rfl<|d9<|c8<|j4<|d8<|c9<|rn rfl<|d9<|c8 ?_
 obtain ⟨g,H⟩|⟨g,H⟩:=oi H
 ·refine iF (nF g)<|d8<|c9<|rn rfl<|d9<|c8 ?_
  obtain ⟨h,H⟩|⟨h,H⟩:=oi H
  ·refine iF (nF h)<|d8<|c9<|rn rfl<|d9<|c8 ?_
   obtain ⟨i,H⟩|⟨i,H⟩:=oi H
   ·refine iT (eT i)<|c9<|rn rfl ?_
    obtain ⟨d,H⟩:=i8 H
    obtain ⟨e,H⟩:=i8 H
    refine k0 (iR d e)<|k0 (qA 5 d e) ?_
    refine rn rfl ?_
    obtain ⟨a,C,H⟩:=f6 H
    refine kC (cl ((Z8.ok C).frz (.agg [.lit (.int .i64 a.1),.lit (.int .i64 a.2.1),.sl .n 4 (a.2.2.1.map I1),.lit (.int .i64 a.2.2.2.1),.lit (.int .i64 a.2.2.2.2)])) [])<|k0 (iR d e)<|k2 (stE 5 (L2 (⟨a.1,a.2.1,a.2.2.1,a.2.2.2.1,a.2.2.2.2⟩ : D3)) ((j.set y.2.1.toNat (⟨a.1,a.2.1,a.2.2.1,a.2.2.2.1,a.2.2.2.2⟩ : D3)).map L2) (ab9 (z:=z48) d e) af4)<|ed<|j6 ?_
    refine D4 0 3 17 [.row 1,.row 2,.row 3,.row 17,.row 5,.row 6,.lit (.int .i64 b),.row 7,.row 8,.lit (.int .i64 c),.row 9,.row 10] ?_
    refine D4 0 4 20 [.row 1,.row 2,.row 3,.row 17,.row 20,.row 6,.lit (.int .i64 b),.row 7,.row 8,.lit (.int .i64 c),.row 9,.row 10] ?_
    refine D4 0 5 23 [.row 1,.row 2,.row 3,.row 17,.row 20,.row 23,.lit (.int .i64 b),.row 7,.row 8,.lit (.int .i64 c),.row 9,.row 10] ?_
    refine D4 0 7 26 [.row 1,.row 2,.row 3,.row 17,.row 20,.row 23,.lit (.int .i64 b),.row 26,.row 8,.lit (.int .i64 c),.row 9,.row 10] ?_
    obtain rfl:=si H
    refine af3 ?_
    exact rt hE [(11,17),(12,20),(13,23),(14,26)]
   refine iF (eF i)<|i9<|j6 ?_
   refine D4 0 3 18 [.row 1,.row 2,.row 3,.row 18,.row 5,.row 6,.lit (.int .i64 b),.row 7,.row 8,.lit (.int .i64 c),.row 9,.row 10] ?_
   refine D4 0 4 21 [.row 1,.row 2,.row 3,.row 18,.row 21,.row 6,.lit (.int .i64 b),.row 7,.row 8,.lit (.int .i64 c),.row 9,.row 10] ?_
   refine D4 0 5 24 [.row 1,.row 2,.row 3,.row 18,.row 21,.row 24,.lit (.int .i64 b),.row 7,.row 8,.lit (.int .i64 c),.row 9,.row 10] ?_
   refine D4 0 7 27 [.row 1,.row 2,.row 3,.row 18,.row 21,.row 24,.lit (.int .i64 b),.row 27,.row 8,.lit (.int .i64 c),.row 9,.row 10] ?_
   obtain rfl:=si H
   refine af3 ?_
   exact rt hE [(11,18),(12,21),(13,24),(14,27)]
  refine iT (nT (bF h))<|c9<|rn rfl ?_
  obtain ⟨F,D,H⟩:=f6 H
  refine kC (cl (F0.ok D) [13,14,15,16]) ?_
  refine rn rfl<|ed<|j6 ?_
  refine aK5 (at9 4) ?_
  refine aK5 (at9 5) ?_
  refine aK5 (at9 6) ?_
  refine aK5 (at9 7) ?_
  obtain rfl:=si H
  refine af3 ?_
  exact rt hE [(11,13),(12,14),(13,15),(14,16)]
 refine iT (nT (bF g))<|i9<|j6 ?_
 refine D4 0 3 19 [.row 1,.row 2,.row 3,.row 19,.row 5,.row 6,.lit (.int .i64 b),.row 7,.row 8,.lit (.int .i64 c),.row 9,.row 10] ?_
 refine D4 0 4 22 [.row 1,.row 2,.row 3,.row 19,.row 22,.row 6,.lit (.int .i64 b),.row 7,.row 8,.lit (.int .i64 c),.row 9,.row 10] ?_
 refine D4 0 5 25 [.row 1,.row 2,.row 3,.row 19,.row 22,.row 25,.lit (.int .i64 b),.row 7,.row 8,.lit (.int .i64 c),.row 9,.row 10] ?_
 refine D4 0 7 28 [.row 1,.row 2,.row 3,.row 19,.row 22,.row 25,.lit (.int .i64 b),.row 28,.row 8,.lit (.int .i64 c),.row 9,.row 10] ?_
 obtain rfl:=si H
 refine af3 ?_
 exact rt hE [(11,19),(12,22),(13,25),(14,28)]
def R0.f (k : Nat) (e : Y42) (g : List H7) (h : List D3) (i : List D1) (j : List Int) (l : List A2) (m : Int) (n : List Int) (a : List C7) (o : Int) (p : List Int) (q : List E9) (s : Int) (r : Int) (b : Int) (t : Int) (u : Int) (v : List r7) (w : ByteArray) : Y1:=if (b.tmod 12) ≥ (a.length : Int) then some (1,e,g,h,i,j,l,m,n,a,o,p,q) else if 0≤(b.tmod 12) then (if (b.tmod 12) < (a.length : Int) then if s = 8 then ((N8.f e g h i j l m n a o p q ((E2 a (b.tmod 12)).f0) ((E2 a (b.tmod 12)).f1) ((E2 a (b.tmod 12)).f2)).bind fun c=>some (0,c.1,c.2.1,c.2.2.1,c.2.2.2.1,c.2.2.2.2.1,c.2.2.2.2.2.1,c.2.2.2.2.2.2.1,c.2.2.2.2.2.2.2.1,c.2.2.2.2.2.2.2.2.1,c.2.2.2.2.2.2.2.2.2.1,c.2.2.2.2.2.2.2.2.2.2.1,c.2.2.2.2.2.2.2.2.2.2.2)) else if s = 9 then (if ((E2 a (b.tmod 12)).f2) = true then some (1,e,g,h,i,j,l,m,n,a,o,p,q) else if (((E2 a (b.tmod 12)).f1).toList == ByteArray.empty.toList) = true then some (1,e,g,h,i,j,l,m,n,a,o,p,q) else if ((E2 a (b.tmod 12)).f1).size≤140737488352256 then if ((s9 ((E2 a (b.tmod 12)).f1)).length : Int)≠0 then (if 0≤(r.tmod ((s9 ((E2 a (b.tmod 12)).f1)).length : Int)) then (if (r.tmod ((s9 ((E2 a (b.tmod 12)).f1)).length : Int)) < ((s9 ((E2 a (b.tmod 12)).f1)).length : Int) then some (0,e,g,h,i,j,l,m,n,a.set (b.tmod 12).toNat (⟨(E2 a (b.tmod 12)).f0,strOfNums ((s9 ((E2 a (b.tmod 12)).f1)).set (r.tmod ((s9 ((E2 a (b.tmod 12)).f1)).length : Int)).toNat (IntKind.u8.wrap ((rd (s9 ((E2 a (b.tmod 12)).f1)) (r.tmod ((s9 ((E2 a (b.tmod 12)).f1)).length : Int))) + 1))),true⟩ : C7),o,p,q) else none) else none) else none else none) else if (b.tmod 12)≤(a.length : Int) then (if ([] : List C7).length + (a.take (b.tmod 12).toNat).length < 4398046511104 then (if 0≤(wrap64 ((b.tmod 12) + 1)) then (if (wrap64 ((b.tmod 12) + 1))≤(a.length : Int) then (if (([] : List C7) ++ (a.take (b.tmod 12).toNat)).length + (a.drop (wrap64 ((b.tmod 12) + 1)).toNat).length < 4398046511104 then if s = 6 then ((O4.f k e g h i j l m n ((([] : List C7) ++ (a.take (b.tmod 12).toNat)) ++ (a.drop (wrap64 ((b.tmod 12) + 1)).toNat)) o p q ((E2 a (b.tmod 12)).f0) ((E2 a (b.tmod 12)).f1) ((E2 a (b.tmod 12)).f2)).bind fun d=>some (0,d.1,d.2.1,d.2.2.1,d.2.2.2.1,d.2.2.2.2.1,d.2.2.2.2.2.1,d.2.2.2.2.2.2.1,d.2.2.2.2.2.2.2.1,d.2.2.2.2.2.2.2.2.1,d.2.2.2.2.2.2.2.2.2.1,d.2.2.2.2.2.2.2.2.2.2.1,d.2.2.2.2.2.2.2.2.2.2.2)) else some (0,e,g,h,i,j,l,m,n,(([] : List C7) ++ (a.take (b.tmod 12).toNat)) ++ (a.drop (wrap64 ((b.tmod 12) + 1)).toNat),o,p,q) else none) else none) else none) else none) else none else none) else none
theorem R0.ok (H : R0.f k t u v w x y a B c b C D F e d G I J K = some r) : j7 Tryz.prog 80 [(0,.box 37 [.row 1,.row 2,.row 3,.row 4,.row 5,.row 6,.lit (.int .i64 a),.row 7,.row 8,.lit (.int .i64 b),.row 9,.row 10]),(1,.row 102 1 (t.map (eL 1 (eL 4 (r8))))),(2,.row 50 4 (u.map M5)),(3,.row 48 5 (v.map L2)),(4,.row 96 6 (w.map I2)),(5,.row 3 1 (x.map (eI .i64))),(6,.row 116 6 (y.map C9)),(7,.row 3 1 (B.map (eI .i64))),(8,.row 108 3 (c.map F9)),(9,.row 3 1 (C.map (eI .i64))),(10,.row 42 4 (D.map M6))] [.box 0 0,.agg [.lit (.int .i64 F),.lit (.int .i64 e),.lit (.int .i64 d),.lit (.int .i64 G),.lit (.int .i64 I),.sl .o 2 (J.map S2),.lit (.string K)]] [(0,.box 37 [.row 1,.row 2,.row 3,.row 11,.row 12,.row 13,.lit (.int .i64 r.2.2.2.2.2.2.2.1),.row 14,.row 15,.lit (.int .i64 r.2.2.2.2.2.2.2.2.2.2.1),.row 9,.row 10]),(1,.row 102 1 (r.2.1.map (eL 1 (eL 4 (r8))))),(2,.row 50 4 (r.2.2.1.map M5)),(3,.row 48 5 (r.2.2.2.1.map L2)),(4,.gone),(5,.gone),(6,.gone),(7,.gone),(8,.gone),(9,.row 3 1 (r.2.2.2.2.2.2.2.2.2.2.2.1.map (eI .i64))),(10,.row 42 4 (r.2.2.2.2.2.2.2.2.2.2.2.2.map M6)),(11,.row 96 6 (r.2.2.2.2.1.map I2)),(12,.row 3 1 (r.2.2.2.2.2.1.map (eI .i64))),(13,.row 116 6 (r.2.2.2.2.2.2.1.map C9)),(14,.row 3 1 (r.2.2.2.2.2.2.2.2.1.map (eI .i64))),(15,.row 108 3 (r.2.2.2.2.2.2.2.2.2.1.map F9))] (.lit (.int .i64 r.1)):=by
 refine u3 90 Tryz.func80 fun E hE=>?_
 rw [R0.f] at H
 refine d8<|c9<|k1 (K2 11) ?_
 refine rn rfl<|d9<|c8<|d8<|c9<|rn rfl<|k0 (rem (by decide : (12 : Int)≠0)) ?_
 refine rn rfl<|d9<|c8<|d8<|d8<|c9<|rn rfl<|k0 (lnR v7) ?_
 refine rn rfl<|d9<|c8 ?_
 obtain ⟨n,H⟩|⟨n,H⟩:=oi H
 ·refine iT (decide_eq_true n)<|d8<|c9<|rn rfl<|d9<|c8<|f7<|f8 ?_
  refine D4 0 3 22 [.row 1,.row 2,.row 3,.row 22,.row 5,.row 6,.lit (.int .i64 a),.row 7,.row 8,.lit (.int .i64 b),.row 9,.row 10] ?_
  refine D4 0 4 28 [.row 1,.row 2,.row 3,.row 22,.row 28,.row 6,.lit (.int .i64 a),.row 7,.row 8,.lit (.int .i64 b),.row 9,.row 10] ?_
  refine D4 0 5 34 [.row 1,.row 2,.row 3,.row 22,.row 28,.row 34,.lit (.int .i64 a),.row 7,.row 8,.lit (.int .i64 b),.row 9,.row 10] ?_
  refine D4 0 7 40 [.row 1,.row 2,.row 3,.row 22,.row 28,.row 34,.lit (.int .i64 a),.row 40,.row 8,.lit (.int .i64 b),.row 9,.row 10] ?_
  refine D4 0 8 46 [.row 1,.row 2,.row 3,.row 22,.row 28,.row 34,.lit (.int .i64 a),.row 40,.row 46,.lit (.int .i64 b),.row 9,.row 10] ?_
  obtain rfl:=si H
  exact rt hE [(11,22),(12,28),(13,34),(14,40),(15,46)]
 refine iF (decide_eq_false n)<|i9<|c8<|d8<|c9<|rn rfl ?_
 obtain ⟨i,H⟩:=i8 H
 obtain ⟨j,H⟩:=i8 H
 refine k0 (iR i j)<|k0 (qA 3 i j)<|k1 (al 12) ?_
 refine rn rfl<|d9<|c8<|d8<|d8<|c9<|rn rfl<|d9<|c8<|j4<|d8<|c9<|rn rfl<|d9<|c8 ?_
 obtain ⟨o,H⟩|⟨o,H⟩:=oi H
 ·refine iT (eT o)<|d8<|c9<|rn rfl ?_
  obtain ⟨g,L,H⟩:=f6 H
  refine kC (cl (N8.ok L) [0,1,2,3,4,5,6,7,8,9,10,13])<|d9<|c8<|d8<|c9 ?_
  refine rn rfl<|d9<|c8<|f7<|l7<|f8 ?_
  refine D4 0 3 23 [.row 1,.row 2,.row 3,.row 23,.row 5,.row 6,.lit (.int .i64 g.2.2.2.2.2.2.1),.row 7,.row 13,.lit (.int .i64 g.2.2.2.2.2.2.2.2.2.1),.row 9,.row 10] ?_
  refine D4 0 4 29 [.row 1,.row 2,.row 3,.row 23,.row 29,.row 6,.lit (.int .i64 g.2.2.2.2.2.2.1),.row 7,.row 13,.lit (.int .i64 g.2.2.2.2.2.2.2.2.2.1),.row 9,.row 10] ?_
  refine D4 0 5 35 [.row 1,.row 2,.row 3,.row 23,.row 29,.row 35,.lit (.int .i64 g.2.2.2.2.2.2.1),.row 7,.row 13,.lit (.int .i64 g.2.2.2.2.2.2.2.2.2.1),.row 9,.row 10] ?_
  refine D4 0 7 41 [.row 1,.row 2,.row 3,.row 23,.row 29,.row 35,.lit (.int .i64 g.2.2.2.2.2.2.1),.row 41,.row 13,.lit (.int .i64 g.2.2.2.2.2.2.2.2.2.1),.row 9,.row 10] ?_
  obtain rfl:=si H
  exact rt hE [(11,23),(12,29),(13,35),(14,41),(15,13)]
 refine iF (eF o)<|d8<|c9<|rn rfl<|d9<|c8 ?_
 obtain ⟨p,H⟩|⟨p,H⟩:=oi H
 ·refine iT (eT p)<|d8<|d8<|c9<|rn rfl ?_
  obtain ⟨h,H⟩|⟨h,H⟩:=oi H
  ·iterate 3 refine kx (hF h) ?_
   refine k0 (o8 h)<|d9<|c8<|iT rfl<|d8<|c9 ?_
   refine rn rfl<|d9<|c8<|f7<|f8<|l7<|f8 ?_
   refine D4 0 3 24 [.row 1,.row 2,.row 3,.row 24,.row 5,.row 6,.lit (.int .i64 a),.row 7,.row 8,.lit (.int .i64 b),.row 9,.row 10] ?_
   refine D4 0 4 30 [.row 1,.row 2,.row 3,.row 24,.row 30,.row 6,.lit (.int .i64 a),.row 7,.row 8,.lit (.int .i64 b),.row 9,.row 10] ?_
   refine D4 0 5 36 [.row 1,.row 2,.row 3,.row 24,.row 30,.row 36,.lit (.int .i64 a),.row 7,.row 8,.lit (.int .i64 b),.row 9,.row 10] ?_
   refine D4 0 7 42 [.row 1,.row 2,.row 3,.row 24,.row 30,.row 36,.lit (.int .i64 a),.row 42,.row 8,.lit (.int .i64 b),.row 9,.row 10] ?_
   refine D4 0 8 47 [.row 1,.row 2,.row 3,.row 24,.row 30,.row 36,.lit (.int .i64 a),.row 42,.row 47,.lit (.int .i64 b),.row 9,.row 10] ?_
   obtain rfl:=si H
   exact rt hE [(11,24),(12,30),(13,36),(14,42),(15,47)]
  refine kv (g1 (bF h)) (y8 1 1)<|kv (g1 (bF h)) B5<|kv (g1 (bF h)) seq ?_
  refine k0 (n8 (bF h))<|d9<|c8 ?_
  obtain ⟨q,H⟩|⟨q,H⟩:=oi H
  ·refine iT q<|d8<|c9<|rn rfl<|d9<|c8<|f7<|f8<|l7<|f8 ?_
   refine D4 0 3 25 [.row 1,.row 2,.row 3,.row 25,.row 5,.row 6,.lit (.int .i64 a),.row 7,.row 8,.lit (.int .i64 b),.row 9,.row 10] ?_
   refine D4 0 4 31 [.row 1,.row 2,.row 3,.row 25,.row 31,.row 6,.lit (.int .i64 a),.row 7,.row 8,.lit (.int .i64 b),.row 9,.row 10] ?_
   refine D4 0 5 37 [.row 1,.row 2,.row 3,.row 25,.row 31,.row 37,.lit (.int .i64 a),.row 7,.row 8,.lit (.int .i64 b),.row 9,.row 10] ?_
   refine D4 0 7 43 [.row 1,.row 2,.row 3,.row 25,.row 31,.row 37,.lit (.int .i64 a),.row 43,.row 8,.lit (.int .i64 b),.row 9,.row 10] ?_
   refine D4 0 8 48 [.row 1,.row 2,.row 3,.row 25,.row 31,.row 37,.lit (.int .i64 a),.row 43,.row 48,.lit (.int .i64 b),.row 9,.row 10] ?_
   obtain rfl:=si H
   exact rt hE [(11,25),(12,31),(13,37),(14,43),(15,48)]
  refine iF (bF q)<|i9<|c8<|d8<|c9<|rn rfl ?_
  obtain ⟨M,H⟩:=i8 H
  refine k1 (cvS 14 M) ?_
  refine rn rfl<|d9<|c8<|d8<|c9<|rn rfl<|k0 (lnR v7) ?_
  obtain ⟨N,H⟩:=i8 H
  refine k0 (rem N) ?_
  obtain ⟨l,H⟩:=i8 H
  obtain ⟨m,H⟩:=i8 H
  refine k0 (iR l m)<|k0 (qL l m) ?_
  refine rn rfl<|k0 (iR l m)<|k2 (stE 1 (eI .u8 (IntKind.u8.wrap ((rd (s9 ((E2 c (d.tmod 12)).f1)) (e.tmod ((s9 ((E2 c (d.tmod 12)).f1)).length : Int))) + 1))) (((s9 ((E2 c (d.tmod 12)).f1)).set (e.tmod ((s9 ((E2 c (d.tmod 12)).f1)).length : Int)).toNat (IntKind.u8.wrap ((rd (s9 ((E2 c (d.tmod 12)).f1)) (e.tmod ((s9 ((E2 c (d.tmod 12)).f1)).length : Int))) + 1))).map (eI .u8)) (ab9 (z:=(0 : Int)) l m) af4)<|d9<|c8<|d8<|c9 ?_
  refine rn rfl<|k0 (cvB (.row rfl)) ?_
  refine rn rfl<|k0 (iR i j)<|k2 (stE 3 (F9 (⟨(E2 c (d.tmod 12)).f0,strOfNums ((s9 ((E2 c (d.tmod 12)).f1)).set (e.tmod ((s9 ((E2 c (d.tmod 12)).f1)).length : Int)).toNat (IntKind.u8.wrap ((rd (s9 ((E2 c (d.tmod 12)).f1)) (e.tmod ((s9 ((E2 c (d.tmod 12)).f1)).length : Int))) + 1))),true⟩ : C7)) ((c.set (d.tmod 12).toNat (⟨(E2 c (d.tmod 12)).f0,strOfNums ((s9 ((E2 c (d.tmod 12)).f1)).set (e.tmod ((s9 ((E2 c (d.tmod 12)).f1)).length : Int)).toNat (IntKind.u8.wrap ((rd (s9 ((E2 c (d.tmod 12)).f1)) (e.tmod ((s9 ((E2 c (d.tmod 12)).f1)).length : Int))) + 1))),true⟩ : C7)).map F9) (ab9 (z:=bx1) i j) af4)<|ed<|c8<|d8<|c9 ?_
  refine rn rfl<|d9<|c8<|f7<|l7<|f8 ?_
  refine D4 0 3 26 [.row 1,.row 2,.row 3,.row 26,.row 5,.row 6,.lit (.int .i64 a),.row 7,.row 8,.lit (.int .i64 b),.row 9,.row 10] ?_
  refine D4 0 4 32 [.row 1,.row 2,.row 3,.row 26,.row 32,.row 6,.lit (.int .i64 a),.row 7,.row 8,.lit (.int .i64 b),.row 9,.row 10] ?_
  refine D4 0 5 38 [.row 1,.row 2,.row 3,.row 26,.row 32,.row 38,.lit (.int .i64 a),.row 7,.row 8,.lit (.int .i64 b),.row 9,.row 10] ?_
  refine D4 0 7 44 [.row 1,.row 2,.row 3,.row 26,.row 32,.row 38,.lit (.int .i64 a),.row 44,.row 8,.lit (.int .i64 b),.row 9,.row 10] ?_
  refine D4 0 8 49 [.row 1,.row 2,.row 3,.row 26,.row 32,.row 38,.lit (.int .i64 a),.row 44,.row 49,.lit (.int .i64 b),.row 9,.row 10] ?_
  obtain rfl:=si H
  exact rt hE [(11,26),(12,32),(13,38),(14,44),(15,49)]
 refine iF (eF p)<|i9<|j6<|c8<|d8<|c9<|rn rfl<|k1 (u7 15 108 3 [.bool false,.string .empty,.bool false] (([] : List C7).map F9)) ?_
 refine rn rfl ?_
 obtain ⟨O,H⟩:=i8 H
 refine k0 (srH 108 i O) ?_
 obtain ⟨P,H⟩:=i8 H
 refine k3 (D7 16 108 3 32 [.bool false,.string .empty,.bool false] ((([] : List C7) ++ (c.take (d.tmod 12).toNat)).map F9) (nwS rfl cc4) (D8 P rfl) z7) ?_
 refine rn rfl ?_
 obtain ⟨Q,H⟩:=i8 H
 obtain ⟨R,H⟩:=i8 H
 refine k0 (srL 108 Q R) ?_
 obtain ⟨T,H⟩:=i8 H
 refine k3 (D7 17 108 3 32 [.bool false,.string .empty,.bool false] (((([] : List C7) ++ (c.take (d.tmod 12).toNat)) ++ (c.drop (wrap64 ((d.tmod 12) + 1)).toNat)).map F9) (nwS rfl bJ4) (D8 T rfl) z7) ?_
 refine rn rfl<|ed<|c8<|d8<|d8<|c9<|rn rfl<|d9<|c8 ?_
 obtain ⟨s,H⟩|⟨s,H⟩:=oi H
 ·refine iT (eT s)<|c9<|rn rfl ?_
  obtain ⟨V,U,H⟩:=f6 H
  refine kC (cl (O4.ok U) [0,1,2,3,4,5,6,7,17,9,10,18,19,20,21])<|d9<|c8<|d8<|c9 ?_
  refine rn rfl<|d9<|c8<|f7 ?_
  refine aK5 (at9 8) ?_
  obtain rfl:=si H
  exact rt hE [(11,18),(12,19),(13,20),(14,21),(15,17)]
 refine iF (eF s)<|i9<|c8<|d8<|c9<|rn rfl<|d9<|c8<|f7 ?_
 refine D4 0 3 27 [.row 1,.row 2,.row 3,.row 27,.row 5,.row 6,.lit (.int .i64 a),.row 7,.row 17,.lit (.int .i64 b),.row 9,.row 10] ?_
 refine D4 0 4 33 [.row 1,.row 2,.row 3,.row 27,.row 33,.row 6,.lit (.int .i64 a),.row 7,.row 17,.lit (.int .i64 b),.row 9,.row 10] ?_
 refine D4 0 5 39 [.row 1,.row 2,.row 3,.row 27,.row 33,.row 39,.lit (.int .i64 a),.row 7,.row 17,.lit (.int .i64 b),.row 9,.row 10] ?_
 refine D4 0 7 45 [.row 1,.row 2,.row 3,.row 27,.row 33,.row 39,.lit (.int .i64 a),.row 45,.row 17,.lit (.int .i64 b),.row 9,.row 10] ?_
 refine aK5 (at9 8) ?_
 obtain rfl:=si H
 exact rt hE [(11,27),(12,33),(13,39),(14,45),(15,17)]
def F7.j0 : Nat→Y40→(List H7)→(List D3)→(List D1)→(List Int)→(List A2)→Int→(List Int)→(List C7)→Int→(List Int)→(List E9)→Y2
 | 0,_,_,_,_,_,_,_,_,_,_,_,_=>none
 | n + 1,a,b,c,d,e,g,h,i,j,k,l,m=>some (a,b,c,d,e,g,h,i,j,k,l,m,0)
def F7.f (k : Nat) (w : Y42) (x : List H7) (y : List D3) (z : List D1) (B : List Int) (C : List A2) (D : Int) (F : List Int) (G : List C7) (q : Int) (I : List Int) (r : List E9) (j : Int) (l : Int) (p : Int) (s : Int) (t : Int) (u : List r7) (v : ByteArray) : Y2:=(t7.f k w x y z B C D F G q I r).bind fun a=>(J0.f k j l p s t u v).bind fun J=>(if J = true then (if (r.length : Int) ≥ 200 then some (a.1,a.2.1,a.2.2.1,a.2.2.2.1,a.2.2.2.2.1,a.2.2.2.2.2.1,a.2.2.2.2.2.2.1,a.2.2.2.2.2.2.2.1,a.2.2.2.2.2.2.2.2.1,a.2.2.2.2.2.2.2.2.2.1,a.2.2.2.2.2.2.2.2.2.2.1,a.2.2.2.2.2.2.2.2.2.2.2,2) else ((j8.f q 0 100000).bind fun K=>(if K = true then ((H9.f w x y z B C D F G q I r).bind fun L=>if L = true then if j = 1 then ((T5.f k a.1 a.2.1 a.2.2.1 a.2.2.2.1 a.2.2.2.2.1 a.2.2.2.2.2.1 a.2.2.2.2.2.2.1 a.2.2.2.2.2.2.2.1 a.2.2.2.2.2.2.2.2.1 a.2.2.2.2.2.2.2.2.2.1 a.2.2.2.2.2.2.2.2.2.2.1 a.2.2.2.2.2.2.2.2.2.2.2 (l.tmod 3) s t u).bind fun b=>some (b.2.1,b.2.2.1,b.2.2.2.1,b.2.2.2.2.1,b.2.2.2.2.2.1,b.2.2.2.2.2.2.1,b.2.2.2.2.2.2.2.1,b.2.2.2.2.2.2.2.2.1,b.2.2.2.2.2.2.2.2.2.1,b.2.2.2.2.2.2.2.2.2.2.1,b.2.2.2.2.2.2.2.2.2.2.2.1,b.2.2.2.2.2.2.2.2.2.2.2.2,b.1)) else if j = 2 then ((U4.f k a.1 a.2.1 a.2.2.1 a.2.2.2.1 a.2.2.2.2.1 a.2.2.2.2.2.1 a.2.2.2.2.2.2.1 a.2.2.2.2.2.2.2.1 a.2.2.2.2.2.2.2.2.1 a.2.2.2.2.2.2.2.2.2.1 a.2.2.2.2.2.2.2.2.2.2.1 a.2.2.2.2.2.2.2.2.2.2.2 (l.tmod 3) v).bind fun c=>some (c.2.1,c.2.2.1,c.2.2.2.1,c.2.2.2.2.1,c.2.2.2.2.2.1,c.2.2.2.2.2.2.1,c.2.2.2.2.2.2.2.1,c.2.2.2.2.2.2.2.2.1,c.2.2.2.2.2.2.2.2.2.1,c.2.2.2.2.2.2.2.2.2.2.1,c.2.2.2.2.2.2.2.2.2.2.2.1,c.2.2.2.2.2.2.2.2.2.2.2.2,c.1)) else if j = 3 then ((C8.f k a.1 a.2.1 a.2.2.1 a.2.2.2.1 a.2.2.2.2.1 a.2.2.2.2.2.1 a.2.2.2.2.2.2.1 a.2.2.2.2.2.2.2.1 a.2.2.2.2.2.2.2.2.1 a.2.2.2.2.2.2.2.2.2.1 a.2.2.2.2.2.2.2.2.2.2.1 a.2.2.2.2.2.2.2.2.2.2.2 (p.tmod 5)).bind fun h=>F7.j0 k h.1 h.2.1 h.2.2.1 h.2.2.2.1 h.2.2.2.2.1 h.2.2.2.2.2.1 h.2.2.2.2.2.2.1 h.2.2.2.2.2.2.2.1 h.2.2.2.2.2.2.2.2.1 h.2.2.2.2.2.2.2.2.2.1 h.2.2.2.2.2.2.2.2.2.2.1 h.2.2.2.2.2.2.2.2.2.2.2) else if j = 4 then ((O8.f k a.1 a.2.1 a.2.2.1 a.2.2.2.1 a.2.2.2.2.1 a.2.2.2.2.2.1 a.2.2.2.2.2.2.1 a.2.2.2.2.2.2.2.1 a.2.2.2.2.2.2.2.2.1 a.2.2.2.2.2.2.2.2.2.1 a.2.2.2.2.2.2.2.2.2.2.1 a.2.2.2.2.2.2.2.2.2.2.2 (l.tmod 3)).bind fun d=>((W9.f d.1).bind fun M=>some (d.2.1,d.2.2.1,d.2.2.2.1,d.2.2.2.2.1,d.2.2.2.2.2.1,d.2.2.2.2.2.2.1,d.2.2.2.2.2.2.2.1,d.2.2.2.2.2.2.2.2.1,d.2.2.2.2.2.2.2.2.2.1,d.2.2.2.2.2.2.2.2.2.2.1,d.2.2.2.2.2.2.2.2.2.2.2.1,d.2.2.2.2.2.2.2.2.2.2.2.2,M))) else if j = 5 then ((B2.f k a.1 a.2.1 a.2.2.1 a.2.2.2.1 a.2.2.2.2.1 a.2.2.2.2.2.1 a.2.2.2.2.2.2.1 a.2.2.2.2.2.2.2.1 a.2.2.2.2.2.2.2.2.1 a.2.2.2.2.2.2.2.2.2.1 a.2.2.2.2.2.2.2.2.2.2.1 a.2.2.2.2.2.2.2.2.2.2.2 (l.tmod 3) ((p.tmod 2) == 1)).bind fun e=>some (e.2.1,e.2.2.1,e.2.2.2.1,e.2.2.2.2.1,e.2.2.2.2.2.1,e.2.2.2.2.2.2.1,e.2.2.2.2.2.2.2.1,e.2.2.2.2.2.2.2.2.1,e.2.2.2.2.2.2.2.2.2.1,e.2.2.2.2.2.2.2.2.2.2.1,e.2.2.2.2.2.2.2.2.2.2.2.1,e.2.2.2.2.2.2.2.2.2.2.2.2,e.1)) else if j = 10 then ((P6.f a.2.2.2.1 a.2.2.2.2.1 a.2.2.2.2.2.1 a.2.2.2.2.2.2.1 a.2.2.2.2.2.2.2.1).bind fun n=>F7.j0 k a.1 a.2.1 a.2.2.1 n.1 n.2.1 n.2.2.1 n.2.2.2.1 n.2.2.2.2 a.2.2.2.2.2.2.2.2.1 a.2.2.2.2.2.2.2.2.2.1 a.2.2.2.2.2.2.2.2.2.2.1 a.2.2.2.2.2.2.2.2.2.2.2) else if j = 11 then ((G6.f k a.2.2.2.1 a.2.2.2.2.1 a.2.2.2.2.2.1 a.2.2.2.2.2.2.1 a.2.2.2.2.2.2.2.1).bind fun o=>F7.j0 k a.1 a.2.1 a.2.2.1 o.1 o.2.1 o.2.2.1 o.2.2.2.1 o.2.2.2.2 a.2.2.2.2.2.2.2.2.1 a.2.2.2.2.2.2.2.2.2.1 a.2.2.2.2.2.2.2.2.2.2.1 a.2.2.2.2.2.2.2.2.2.2.2) else if j = 12 then ((aa1.f a.2.2.2.1 a.2.2.2.2.1 a.2.2.2.2.2.1 a.2.2.2.2.2.2.1 a.2.2.2.2.2.2.2.1 (l.tmod 3)).bind fun m=>(Q5.f k m.1 m.2.1 m.2.2.1 m.2.2.2.1 m.2.2.2.2.1 m.2.2.2.2.2.1 m.2.2.2.2.2.2.1).bind fun N=>(N8.f a.1 a.2.1 a.2.2.1 a.2.2.2.1 a.2.2.2.2.1 a.2.2.2.2.2.1 a.2.2.2.2.2.2.1 a.2.2.2.2.2.2.2.1 a.2.2.2.2.2.2.2.2.1 a.2.2.2.2.2.2.2.2.2.1 a.2.2.2.2.2.2.2.2.2.2.1 a.2.2.2.2.2.2.2.2.2.2.2 true N.1 false).bind fun i=>F7.j0 k i.1 i.2.1 i.2.2.1 i.2.2.2.1 i.2.2.2.2.1 i.2.2.2.2.2.1 i.2.2.2.2.2.2.1 i.2.2.2.2.2.2.2.1 i.2.2.2.2.2.2.2.2.1 i.2.2.2.2.2.2.2.2.2.1 i.2.2.2.2.2.2.2.2.2.2.1 i.2.2.2.2.2.2.2.2.2.2.2) else ((R0.f k a.1 a.2.1 a.2.2.1 a.2.2.2.1 a.2.2.2.2.1 a.2.2.2.2.2.1 a.2.2.2.2.2.2.1 a.2.2.2.2.2.2.2.1 a.2.2.2.2.2.2.2.2.1 a.2.2.2.2.2.2.2.2.2.1 a.2.2.2.2.2.2.2.2.2.2.1 a.2.2.2.2.2.2.2.2.2.2.2 j l p s t u v).bind fun g=>some (g.2.1,g.2.2.1,g.2.2.2.1,g.2.2.2.2.1,g.2.2.2.2.2.1,g.2.2.2.2.2.2.1,g.2.2.2.2.2.2.2.1,g.2.2.2.2.2.2.2.2.1,g.2.2.2.2.2.2.2.2.2.1,g.2.2.2.2.2.2.2.2.2.2.1,g.2.2.2.2.2.2.2.2.2.2.2.1,g.2.2.2.2.2.2.2.2.2.2.2.2,g.1)) else some (a.1,a.2.1,a.2.2.1,a.2.2.2.1,a.2.2.2.2.1,a.2.2.2.2.2.1,a.2.2.2.2.2.2.1,a.2.2.2.2.2.2.2.1,a.2.2.2.2.2.2.2.2.1,a.2.2.2.2.2.2.2.2.2.1,a.2.2.2.2.2.2.2.2.2.2.1,a.2.2.2.2.2.2.2.2.2.2.2,2)) else some (a.1,a.2.1,a.2.2.1,a.2.2.2.1,a.2.2.2.2.1,a.2.2.2.2.2.1,a.2.2.2.2.2.2.1,a.2.2.2.2.2.2.2.1,a.2.2.2.2.2.2.2.2.1,a.2.2.2.2.2.2.2.2.2.1,a.2.2.2.2.2.2.2.2.2.2.1,a.2.2.2.2.2.2.2.2.2.2.2,2)))) else some (a.1,a.2.1,a.2.2.1,a.2.2.2.1,a.2.2.2.2.1,a.2.2.2.2.2.1,a.2.2.2.2.2.2.1,a.2.2.2.2.2.2.2.1,a.2.2.2.2.2.2.2.2.1,a.2.2.2.2.2.2.2.2.2.1,a.2.2.2.2.2.2.2.2.2.2.1,a.2.2.2.2.2.2.2.2.2.2.2,2))
theorem F7.ok (H : F7.f k D F G I K L M N O P Q R T U V W X Y Z = some r) : j7 Tryz.prog 19 [] [.agg [.sl .o 1 (D.map (eL 1 (eL 4 (r8)))),.sl .o 4 (F.map M5),.sl .o 5 (G.map L2),.sl .o 6 (I.map I2),.sl .o 1 (K.map (eI .i64)),.sl .o 6 (L.map C9),.lit (.int .i64 M),.sl .o 1 (N.map (eI .i64)),.sl .o 3 (O.map F9),.lit (.int .i64 P),.sl .o 1 (Q.map (eI .i64)),.sl .o 4 (R.map M6)],.agg [.lit (.int .i64 T),.lit (.int .i64 U),.lit (.int .i64 V),.lit (.int .i64 W),.lit (.int .i64 X),.sl .o 2 (Y.map S2),.lit (.string Z)]] [(0,.row 102 1 (r.1.map (eL 1 (eL 4 (r8))))),(1,.row 50 4 (r.2.1.map M5)),(2,.row 48 5 (r.2.2.1.map L2)),(3,.row 96 6 (r.2.2.2.1.map I2)),(4,.row 3 1 (r.2.2.2.2.1.map (eI .i64))),(5,.row 116 6 (r.2.2.2.2.2.1.map C9)),(6,.row 3 1 (r.2.2.2.2.2.2.2.1.map (eI .i64))),(7,.row 108 3 (r.2.2.2.2.2.2.2.2.1.map F9)),(8,.row 3 1 (r.2.2.2.2.2.2.2.2.2.2.1.map (eI .i64))),(9,.row 42 4 (r.2.2.2.2.2.2.2.2.2.2.2.1.map M6))] (.tup [.agg [.row 0,.row 1,.row 2,.row 3,.row 4,.row 5,.lit (.int .i64 r.2.2.2.2.2.2.1),.row 6,.row 7,.lit (.int .i64 r.2.2.2.2.2.2.2.2.2.1),.row 8,.row 9],.lit (.int .i64 r.2.2.2.2.2.2.2.2.2.2.2.2)]):=by
 refine u3 118 Tryz.func19 fun E hE=>?_
 rw [F7.f] at H
 refine d8<|c9<|k1 (K2 0)<|k1 (K2 1)<|k1 (al 2) ?_
 refine rn rfl<|d9<|c8<|d8<|c9<|rn rfl ?_
 obtain ⟨aG,a0,H⟩:=f6 H
 refine kC (cl (t7.ok a0) [3,4,5,6,7,8,9,10,11,12])<|k1 (al 13) ?_
 refine rn rfl<|d9<|c8<|d8<|d8<|c9<|rn rfl ?_
 obtain ⟨aH,a1,H⟩:=f6 H
 refine kC (cl (J0.ok a1) []) ?_
 refine rn rfl ?_
 obtain ⟨a,H⟩|⟨a,H⟩:=oi H
 ·refine kv (g1 (nF a)) (y8 11 11)<|kv (g1 (nF a)) B5<|kv (g1 (nF a)) (G3 v7)<|kv (g1 (nF a)) geq ?_
  refine k0 (n8 (nF a)) ?_
  refine rn rfl ?_
  obtain ⟨b,H⟩|⟨b,H⟩:=oi H
  ·iterate 4 refine kx (hF (decide_eq_true b)) ?_
   refine k0 (o8 (decide_eq_true b)) ?_
   refine rn rfl ?_
   iterate 3 refine kx (hF rfl) ?_
   refine k0 (o8 rfl)<|d9<|c8<|iT rfl<|d8<|c9 ?_
   refine rn rfl<|d9<|c8<|f7<|f8 ?_
   obtain rfl:=si H
   exact rt hE [(0,3),(1,4),(2,5),(3,6),(4,7),(5,8),(6,9),(7,10),(8,11),(9,12)] (hr:=(D5 12 (.tmp .nil)))
  refine kv (g1 (decide_eq_false b)) (y8 9 9)<|kv (g1 (decide_eq_false b)) B5 ?_
  obtain ⟨aI,a2,H⟩:=f6 H
  refine N5 (g1 (decide_eq_false b)) (cl (j8.ok a2) [])<|kv (g1 (decide_eq_false b)) V4 ?_
  refine k0 (n8 (decide_eq_false b)) ?_
  refine rn rfl ?_
  obtain ⟨c,H⟩|⟨c,H⟩:=oi H
  ·refine kv (g1 (nF c)) (bA 12) ?_
   obtain ⟨aJ,a3,H⟩:=f6 H
   refine N5 (g1 (nF c)) (cl (H9.ok a3) [])<|kv (g1 (nF c)) V4 ?_
   refine k0 (n8 (nF c))<|d9<|c8 ?_
   obtain ⟨e,H⟩|⟨e,H⟩:=oi H
   ·refine iF (nF e)<|i9<|c8<|d8<|c9<|rn rfl<|k0 (rem (by decide : (3 : Int)≠0)) ?_
    refine rn rfl<|d9<|c8 ?_
    refine H0 (J:=bU3 E 118 r k F7.j0 (fun p q s t u v w x y z B C=>⟨[(4,.box 2 0),(6,.box 13 0)],[(2,.box 37 [.lit (.slice none 0 0),.lit (.slice none 0 0),.lit (.slice none 0 0),.lit (.slice none 0 0),.lit (.slice none 0 0),.lit (.slice none 0 0),.lit (.int .i64 0),.lit (.slice none 0 0),.lit (.slice none 0 0),.lit (.int .i64 0),.lit (.slice none 0 0),.lit (.slice none 0 0)]),(3,.row 102 1 (p.map (eL 1 (eL 4 (r8))))),(4,.row 50 4 (q.map M5)),(5,.row 48 5 (s.map L2)),(6,.row 96 6 (t.map I2)),(7,.row 3 1 (u.map (eI .i64))),(8,.row 116 6 (v.map C9)),(9,.row 3 1 (x.map (eI .i64))),(10,.row 108 3 (y.map F9)),(11,.row 3 1 (B.map (eI .i64))),(12,.row 42 4 (C.map M6)),(13,.box 37 [.row 3,.row 4,.row 5,.row 6,.row 7,.row 8,.lit (.int .i64 w),.row 9,.row 10,.lit (.int .i64 z),.row 11,.row 12])]⟩)) ?_ ?_
    ·intro aK d
     refine d8<|c9<|rn rfl<|d9<|c8<|j4<|d8<|c9<|rn rfl<|d9<|c8 ?_
     obtain ⟨g,H⟩|⟨g,H⟩:=oi H
     ·refine iT (eT g)<|d8<|c9<|rn rfl ?_
      obtain ⟨aL,a4,H⟩:=f6 H
      refine kC (cl (T5.ok a4) [13,3,4,5,6,7,8,9,10,11,12,14,15]) ?_
      refine rn rfl<|d9<|c8<|d8<|c9<|rn rfl<|d9<|c8<|f7<|l7<|f8 ?_
      obtain rfl:=si H
      exact rt hE [(0,3),(1,4),(2,5),(3,6),(4,7),(5,8),(6,9),(7,10),(8,14),(9,15)] (hr:=(D5 12 (.tmp .nil)))
     refine iF (eF g)<|d8<|c9<|rn rfl<|d9<|c8 ?_
     obtain ⟨h,H⟩|⟨h,H⟩:=oi H
     ·refine iT (eT h)<|d8<|c9<|rn rfl ?_
      obtain ⟨aM,a5,H⟩:=f6 H
      refine kC (cl (U4.ok a5) [13,3,4,5,6,7,8,9,10,11,12]) ?_
      refine rn rfl<|d9<|c8<|d8<|c9<|rn rfl<|d9<|c8<|f7<|l7<|f8 ?_
      obtain rfl:=si H
      exact rt hE [(0,3),(1,4),(2,5),(3,6),(4,7),(5,8),(6,9),(7,10),(8,11),(9,12)] (hr:=(D5 12 (.tmp .nil)))
     refine iF (eF h)<|d8<|c9<|rn rfl<|d9<|c8 ?_
     obtain ⟨i,H⟩|⟨i,H⟩:=oi H
     ·refine iT (eT i)<|c9<|rn rfl<|k0 (rem (by decide : (5 : Int)≠0)) ?_
      obtain ⟨aN,a6,H⟩:=f6 H
      refine kC (cl (C8.ok a6) [13,3,4,5,6,7,8,9,10,11,12])<|d9<|j6<|l6 ?_
      exact aw hE [] (d.u (Nat.le_refl _) H)
     refine iF (eF i)<|d8<|c9<|rn rfl<|d9<|c8 ?_
     obtain ⟨j,H⟩|⟨j,H⟩:=oi H
     ·refine iT (eT j)<|d8<|c9<|rn rfl ?_
      obtain ⟨aO,a7,H⟩:=f6 H
      refine kC (cl (O8.ok a7) [13,3,4,5,6,7,8,9,10,11,12]) ?_
      obtain ⟨aP,a8,H⟩:=f6 H
      refine kC (cl (W9.ok a8) []) ?_
      refine rn rfl<|d9<|c8<|d8<|c9<|rn rfl<|d9<|c8<|f7<|l7<|f8 ?_
      obtain rfl:=si H
      exact rt hE [(0,3),(1,4),(2,5),(3,6),(4,7),(5,8),(6,9),(7,10),(8,11),(9,12)] (hr:=(D5 12 (.tmp .nil)))
     refine iF (eF j)<|d8<|c9<|rn rfl<|d9<|c8 ?_
     obtain ⟨l,H⟩|⟨l,H⟩:=oi H
     ·refine iT (eT l)<|d8<|c9<|rn rfl<|k0 (rem (by decide : (2 : Int)≠0)) ?_
      refine rn rfl ?_
      obtain ⟨aQ,a9,H⟩:=f6 H
      refine kC (cl (B2.ok a9) [13,3,4,5,6,7,8,9,10,11,12,16]) ?_
      refine rn rfl<|d9<|c8<|d8<|c9<|rn rfl<|d9<|c8<|f7<|l7<|f8 ?_
      obtain rfl:=si H
      exact rt hE [(0,3),(1,4),(2,5),(3,6),(4,7),(5,8),(6,9),(7,16),(8,11),(9,12)] (hr:=(D5 12 (.tmp .nil)))
     refine iF (eF l)<|d8<|c9<|rn rfl<|d9<|c8 ?_
     obtain ⟨m,H⟩|⟨m,H⟩:=oi H
     ·refine iT (eT m)<|c9<|rn rfl ?_
      obtain ⟨aR,aA,H⟩:=f6 H
      refine kC (cl (P6.ok aA) [17,18,19,20]) ?_
      refine rn rfl<|d9<|j6<|l6 ?_
      exact aw hE [(6,17),(7,18),(8,19),(9,20)] (d.u (Nat.le_refl _) H)
     refine iF (eF m)<|d8<|c9<|rn rfl<|d9<|c8 ?_
     obtain ⟨n,H⟩|⟨n,H⟩:=oi H
     ·refine iT (eT n)<|c9<|rn rfl ?_
      obtain ⟨aS,aB,H⟩:=f6 H
      refine kC (cl (G6.ok aB) [21,22,23,24]) ?_
      refine rn rfl<|d9<|j6<|l6 ?_
      exact aw hE [(6,21),(7,22),(8,23),(9,24)] (d.u (Nat.le_refl _) H)
     refine iF (eF n)<|d8<|c9<|rn rfl<|d9<|c8 ?_
     obtain ⟨o,H⟩|⟨o,H⟩:=oi H
     ·refine iT (eT o)<|d8<|c9<|rn rfl ?_
      obtain ⟨aT,aC,H⟩:=f6 H
      refine kC (cl (aa1.ok aC) []) ?_
      refine rn rfl<|k1 (al 25) ?_
      refine rn rfl<|d9<|c8<|d8<|c9<|rn rfl ?_
      obtain ⟨aU,aD,H⟩:=f6 H
      refine kC (cl (Q5.ok aD) []) ?_
      refine rn rfl<|d9<|c8<|c9<|rn rfl ?_
      obtain ⟨aV,aE,H⟩:=f6 H
      refine kC (cl (N8.ok aE) [13,3,4,5,6,7,8,9,10,11,12,26])<|d9<|j6<|l6 ?_
      exact aw hE [(10,26)] (d.u (Nat.le_refl _) H)
     refine iF (eF o)<|d8<|c9<|rn rfl ?_
     obtain ⟨aW,aF,H⟩:=f6 H
     refine kC (cl (R0.ok aF) [13,3,4,5,6,7,8,9,10,11,12,27,28,29,30,31]) ?_
     refine rn rfl<|d9<|c8<|d8<|c9<|rn rfl<|d9<|c8<|f7<|l7<|f8 ?_
     obtain rfl:=si H
     exact rt hE [(0,3),(1,4),(2,5),(3,27),(4,28),(5,29),(6,30),(7,31),(8,11),(9,12)] (hr:=(D5 12 (.tmp .nil)))
    refine cb9 (fun _ _ _ _ _ _ _ _ _ _ _ _ _=>F7.j0.eq_2 ..) fun aX p q s t u v w x y z B C aY H=>?_
    refine d8<|c9<|rn rfl<|d9<|c8<|f7 ?_
    obtain rfl:=si H
    exact rt hE [(0,3),(1,4),(2,5),(3,6),(4,7),(5,8),(6,9),(7,10),(8,11),(9,12)] (hr:=(D5 12 (.tmp .nil)))
   refine iT (nT (bF e))<|d8<|c9<|rn rfl<|d9<|c8<|f7<|f8 ?_
   obtain rfl:=si H
   exact rt hE [(0,3),(1,4),(2,5),(3,6),(4,7),(5,8),(6,9),(7,10),(8,11),(9,12)] (hr:=(D5 12 (.tmp .nil)))
  iterate 3 refine kx (hF (nT (bF c))) ?_
  refine k0 (o8 (nT (bF c)))<|d9<|c8<|iT rfl<|d8<|c9 ?_
  refine rn rfl<|d9<|c8<|f7<|f8 ?_
  obtain rfl:=si H
  exact rt hE [(0,3),(1,4),(2,5),(3,6),(4,7),(5,8),(6,9),(7,10),(8,11),(9,12)] (hr:=(D5 12 (.tmp .nil)))
 iterate 4 refine kx (hF (nT (bF a))) ?_
 refine k0 (o8 (nT (bF a))) ?_
 refine rn rfl ?_
 iterate 4 refine kx (hF rfl) ?_
 refine k0 (o8 rfl) ?_
 refine rn rfl ?_
 iterate 3 refine kx (hF rfl) ?_
 refine k0 (o8 rfl)<|d9<|c8<|iT rfl<|d8<|c9 ?_
 refine rn rfl<|d9<|c8<|f7<|f8 ?_
 obtain rfl:=si H
 exact rt hE [(0,3),(1,4),(2,5),(3,6),(4,7),(5,8),(6,9),(7,10),(8,11),(9,12)] (hr:=(D5 12 (.tmp .nil)))
mutual
def B6.l0 : Nat→(List A6)→Int→Y0
 | 0,_,_=>none
 | g + 1,a,c=>if c < (a.length : Int) then if 0≤c then (J0.f g ((Z5 a c).f0) ((Z5 a c).f1) ((Z5 a c).f2) ((Z5 a c).f3.f0) ((Z5 a c).f3.f1) ((Z5 a c).f3.f2) ((Z5 a c).f4)).bind fun v=>if v = true then B6.l0 g a (wrap64 (c + 1)) else some ([],[],[],[],[],[],0,[],[],0,[],[],([] : List Int),false) else none else (H5.f g).bind fun e=>B6.l1 g a e.1 e.2.1 e.2.2.1 ([]) e.2.2.2.1 ([]) e.2.2.2.2.1 e.2.2.2.2.2.1 ([]) e.2.2.2.2.2.2 ([]) ([]) ([] : List Int) 0
def B6.l1 : Nat→(List A6)→Y40→(List H7)→(List D3)→(List D1)→(List Int)→(List A2)→Int→(List Int)→(List C7)→Int→(List Int)→(List E9)→(List Int)→Int→Y0
 | 0,_,_,_,_,_,_,_,_,_,_,_,_,_,_,_=>none
 | i + 1,a,j,k,l,m,n,o,p,q,r,s,t,u,h,d=>if d < (a.length : Int) then if 0≤d then (F7.f i j k l m n o p q r s t u ((Z5 a d).f0) ((Z5 a d).f1) ((Z5 a d).f2) ((Z5 a d).f3.f0) ((Z5 a d).f3.f1) ((Z5 a d).f3.f2) ((Z5 a d).f4)).bind fun b=>if h.length + ([b.2.2.2.2.2.2.2.2.2.2.2.2] : List Int).length < 17592186044416 then B6.l1 i a b.1 b.2.1 b.2.2.1 b.2.2.2.1 b.2.2.2.2.1 b.2.2.2.2.2.1 b.2.2.2.2.2.2.1 b.2.2.2.2.2.2.2.1 b.2.2.2.2.2.2.2.2.1 b.2.2.2.2.2.2.2.2.2.1 b.2.2.2.2.2.2.2.2.2.2.1 b.2.2.2.2.2.2.2.2.2.2.2.1 (h ++ ([b.2.2.2.2.2.2.2.2.2.2.2.2] : List Int)) (wrap64 (d + 1)) else none else none else some (j,k,l,m,n,o,p,q,r,s,t,u,h,true)
end
def B6.f (k : Nat) (a : List A6) : Y0:=if (a.length : Int) > 90 then some ([],[],[],[],[],[],0,[],[],0,[],[],([] : List Int),false) else B6.l0 k a 0
theorem B6.ok (H : B6.f k b = some r) : j7 Tryz.prog 16 [] [.sl .o 7 (b.map e62)] [(0,.row 102 1 (r.1.map (eL 1 (eL 4 (r8))))),(1,.row 50 4 (r.2.1.map M5)),(2,.row 48 5 (r.2.2.1.map L2)),(3,.row 96 6 (r.2.2.2.1.map I2)),(4,.row 3 1 (r.2.2.2.2.1.map (eI .i64))),(5,.row 116 6 (r.2.2.2.2.2.1.map C9)),(6,.row 3 1 (r.2.2.2.2.2.2.2.1.map (eI .i64))),(7,.row 108 3 (r.2.2.2.2.2.2.2.2.1.map F9)),(8,.row 3 1 (r.2.2.2.2.2.2.2.2.2.2.1.map (eI .i64))),(9,.row 42 4 (r.2.2.2.2.2.2.2.2.2.2.2.1.map M6)),(10,.row 3 1 (r.2.2.2.2.2.2.2.2.2.2.2.2.1.map (eI .i64)))] (.tup [.agg [.row 0,.row 1,.row 2,.row 3,.row 4,.row 5,.lit (.int .i64 r.2.2.2.2.2.2.1),.row 6,.row 7,.lit (.int .i64 r.2.2.2.2.2.2.2.2.2.1),.row 8,.row 9],.row 10,.lit (.bool r.2.2.2.2.2.2.2.2.2.2.2.2.2)]):=by
 refine u3 52 Tryz.func16 fun E hE=>?_
 rw [B6.f] at H
 refine d8<|c9<|k1 (al 0) ?_
 refine rn rfl<|d9<|c8<|d8<|d8<|c9<|rn rfl<|k0 (G3 v7) ?_
 refine rn rfl<|d9<|c8 ?_
 obtain ⟨e,H⟩|⟨e,H⟩:=oi H
 ·refine iT (decide_eq_true e)<|d8<|c9<|rn rfl<|k1 (u7 1 3 1 [.int .i64 0] (([] : List Int).map (eI .i64))) ?_
  refine rn rfl<|d9<|c8<|f7<|f8 ?_
  refine C4 0 0 44 102 1 [.row 44,.lit (.slice none 0 0),.lit (.slice none 0 0),.lit (.slice none 0 0),.lit (.slice none 0 0),.lit (.slice none 0 0),.lit (.int .i64 0),.lit (.slice none 0 0),.lit (.slice none 0 0),.lit (.int .i64 0),.lit (.slice none 0 0),.lit (.slice none 0 0)] ?_
  refine C4 0 1 46 50 4 [.row 44,.row 46,.lit (.slice none 0 0),.lit (.slice none 0 0),.lit (.slice none 0 0),.lit (.slice none 0 0),.lit (.int .i64 0),.lit (.slice none 0 0),.lit (.slice none 0 0),.lit (.int .i64 0),.lit (.slice none 0 0),.lit (.slice none 0 0)] ?_
  refine C4 0 2 48 48 5 [.row 44,.row 46,.row 48,.lit (.slice none 0 0),.lit (.slice none 0 0),.lit (.slice none 0 0),.lit (.int .i64 0),.lit (.slice none 0 0),.lit (.slice none 0 0),.lit (.int .i64 0),.lit (.slice none 0 0),.lit (.slice none 0 0)] ?_
  refine C4 0 3 50 96 6 [.row 44,.row 46,.row 48,.row 50,.lit (.slice none 0 0),.lit (.slice none 0 0),.lit (.int .i64 0),.lit (.slice none 0 0),.lit (.slice none 0 0),.lit (.int .i64 0),.lit (.slice none 0 0),.lit (.slice none 0 0)] ?_
  refine C4 0 4 52 3 1 [.row 44,.row 46,.row 48,.row 50,.row 52,.lit (.slice none 0 0),.lit (.int .i64 0),.lit (.slice none 0 0),.lit (.slice none 0 0),.lit (.int .i64 0),.lit (.slice none 0 0),.lit (.slice none 0 0)] ?_
  refine C4 0 5 54 116 6 [.row 44,.row 46,.row 48,.row 50,.row 52,.row 54,.lit (.int .i64 0),.lit (.slice none 0 0),.lit (.slice none 0 0),.lit (.int .i64 0),.lit (.slice none 0 0),.lit (.slice none 0 0)] ?_
  refine C4 0 7 56 3 1 [.row 44,.row 46,.row 48,.row 50,.row 52,.row 54,.lit (.int .i64 0),.row 56,.lit (.slice none 0 0),.lit (.int .i64 0),.lit (.slice none 0 0),.lit (.slice none 0 0)] ?_
  refine C4 0 8 58 108 3 [.row 44,.row 46,.row 48,.row 50,.row 52,.row 54,.lit (.int .i64 0),.row 56,.row 58,.lit (.int .i64 0),.lit (.slice none 0 0),.lit (.slice none 0 0)] ?_
  refine C4 0 10 60 3 1 [.row 44,.row 46,.row 48,.row 50,.row 52,.row 54,.lit (.int .i64 0),.row 56,.row 58,.lit (.int .i64 0),.row 60,.lit (.slice none 0 0)] ?_
  refine C4 0 11 62 42 4 [.row 44,.row 46,.row 48,.row 50,.row 52,.row 54,.lit (.int .i64 0),.row 56,.row 58,.lit (.int .i64 0),.row 60,.row 62] ?_
  obtain rfl:=si H
  exact rt hE [(0,44),(1,46),(2,48),(3,50),(4,52),(5,54),(6,56),(7,58),(8,60),(9,62),(10,1)] (hr:=(D5 12 (.tmp (.tmp .nil))))
 refine iF (decide_eq_false e)<|i9<|c8<|d8<|d8<|c9<|rn rfl<|k0 (G3 v7) ?_
 refine rn rfl<|d9<|c8<|j4 ?_
 refine lp1 (fun k=>B6.l0 k b) (fun j=>⟨[(0,.sl .o 7 (b.map e62)),(2,.box 0 0),(18,.sl .o 7 (b.map e62)),(19,.lit (.int .i64 (b.length : Int))),(20,.lit (.int .i64 j))],[(0,.box 37 [.lit (.slice none 0 0),.lit (.slice none 0 0),.lit (.slice none 0 0),.lit (.slice none 0 0),.lit (.slice none 0 0),.lit (.slice none 0 0),.lit (.int .i64 0),.lit (.slice none 0 0),.lit (.slice none 0 0),.lit (.int .i64 0),.lit (.slice none 0 0),.lit (.slice none 0 0)])]⟩) H (fun _ h=>aw hE [] h) (fun _ _=>B6.l0.eq_2 ..) fun L j M H N B=>?_
 refine d8<|c9<|rn rfl<|d9<|c8<|d8 ?_
 obtain ⟨c,H⟩|⟨c,H⟩:=oi H
 ·refine iT (decide_eq_true c)<|i9<|c8<|d8<|j4<|d8<|c9 ?_
  obtain ⟨C,H⟩:=i8 H
  refine k0 (iS C c) ?_
  refine rn rfl<|k1 (al 2) ?_
  refine rn rfl<|d9<|c8<|d8<|c9<|rn rfl ?_
  obtain ⟨O,D,H⟩:=f6 H
  refine kC (cl (J0.ok D) []) ?_
  refine rn rfl<|d9<|c8 ?_
  obtain ⟨g,H⟩|⟨g,H⟩:=oi H
  ·refine iF (nF g)<|i9<|j6<|c8<|c9<|rn rfl<|d9<|l6 ?_
   exact aw hE [] (B (Nat.le_refl _) H)
  refine iT (nT (bF g))<|d8<|c9<|rn rfl<|k1 (u7 3 3 1 [.int .i64 0] (([] : List Int).map (eI .i64))) ?_
  refine rn rfl<|d9<|c8<|f7<|l7<|f8<|f8<|l7<|f8 ?_
  refine C4 0 0 45 102 1 [.row 45,.lit (.slice none 0 0),.lit (.slice none 0 0),.lit (.slice none 0 0),.lit (.slice none 0 0),.lit (.slice none 0 0),.lit (.int .i64 0),.lit (.slice none 0 0),.lit (.slice none 0 0),.lit (.int .i64 0),.lit (.slice none 0 0),.lit (.slice none 0 0)] ?_
  refine C4 0 1 47 50 4 [.row 45,.row 47,.lit (.slice none 0 0),.lit (.slice none 0 0),.lit (.slice none 0 0),.lit (.slice none 0 0),.lit (.int .i64 0),.lit (.slice none 0 0),.lit (.slice none 0 0),.lit (.int .i64 0),.lit (.slice none 0 0),.lit (.slice none 0 0)] ?_
  refine C4 0 2 49 48 5 [.row 45,.row 47,.row 49,.lit (.slice none 0 0),.lit (.slice none 0 0),.lit (.slice none 0 0),.lit (.int .i64 0),.lit (.slice none 0 0),.lit (.slice none 0 0),.lit (.int .i64 0),.lit (.slice none 0 0),.lit (.slice none 0 0)] ?_
  refine C4 0 3 51 96 6 [.row 45,.row 47,.row 49,.row 51,.lit (.slice none 0 0),.lit (.slice none 0 0),.lit (.int .i64 0),.lit (.slice none 0 0),.lit (.slice none 0 0),.lit (.int .i64 0),.lit (.slice none 0 0),.lit (.slice none 0 0)] ?_
  refine C4 0 4 53 3 1 [.row 45,.row 47,.row 49,.row 51,.row 53,.lit (.slice none 0 0),.lit (.int .i64 0),.lit (.slice none 0 0),.lit (.slice none 0 0),.lit (.int .i64 0),.lit (.slice none 0 0),.lit (.slice none 0 0)] ?_
  refine C4 0 5 55 116 6 [.row 45,.row 47,.row 49,.row 51,.row 53,.row 55,.lit (.int .i64 0),.lit (.slice none 0 0),.lit (.slice none 0 0),.lit (.int .i64 0),.lit (.slice none 0 0),.lit (.slice none 0 0)] ?_
  refine C4 0 7 57 3 1 [.row 45,.row 47,.row 49,.row 51,.row 53,.row 55,.lit (.int .i64 0),.row 57,.lit (.slice none 0 0),.lit (.int .i64 0),.lit (.slice none 0 0),.lit (.slice none 0 0)] ?_
  refine C4 0 8 59 108 3 [.row 45,.row 47,.row 49,.row 51,.row 53,.row 55,.lit (.int .i64 0),.row 57,.row 59,.lit (.int .i64 0),.lit (.slice none 0 0),.lit (.slice none 0 0)] ?_
  refine C4 0 10 61 3 1 [.row 45,.row 47,.row 49,.row 51,.row 53,.row 55,.lit (.int .i64 0),.row 57,.row 59,.lit (.int .i64 0),.row 61,.lit (.slice none 0 0)] ?_
  refine C4 0 11 63 42 4 [.row 45,.row 47,.row 49,.row 51,.row 53,.row 55,.lit (.int .i64 0),.row 57,.row 59,.lit (.int .i64 0),.row 61,.row 63] ?_
  obtain rfl:=si H
  exact rt hE [(0,45),(1,47),(2,49),(3,51),(4,53),(5,55),(6,57),(7,59),(8,61),(9,63),(10,3)] (hr:=(D5 12 (.tmp (.tmp .nil))))
 refine iF (decide_eq_false c)<|m6<|j5<|j5<|n7 rfl<|c8<|d8<|c9 ?_
 obtain ⟨a,F,H⟩:=f6 H
 refine kC (cl (H5.ok F) [4,5,6,7,8])<|k1 (al 9) ?_
 refine rn rfl<|d9<|c8<|d8<|c9<|k1 (u7 10 3 1 [.int .i64 0] (([] : List Int).map (eI .i64))) ?_
 refine rn rfl<|d9<|c8<|d8<|d8<|c9<|rn rfl<|k0 (G3 v7) ?_
 refine rn rfl<|d9<|c8<|j4 ?_
 refine C4 9 3 25 96 6 [.row 4,.row 5,.row 6,.row 25,.row 7,.lit (.slice none 0 0),.lit (.int .i64 a.2.2.2.2.1),.row 8,.lit (.slice none 0 0),.lit (.int .i64 a.2.2.2.2.2.2),.lit (.slice none 0 0),.lit (.slice none 0 0)] ?_
 refine C4 9 5 26 116 6 [.row 4,.row 5,.row 6,.row 25,.row 7,.row 26,.lit (.int .i64 a.2.2.2.2.1),.row 8,.lit (.slice none 0 0),.lit (.int .i64 a.2.2.2.2.2.2),.lit (.slice none 0 0),.lit (.slice none 0 0)] ?_
 refine C4 9 8 27 108 3 [.row 4,.row 5,.row 6,.row 25,.row 7,.row 26,.lit (.int .i64 a.2.2.2.2.1),.row 8,.row 27,.lit (.int .i64 a.2.2.2.2.2.2),.lit (.slice none 0 0),.lit (.slice none 0 0)] ?_
 refine C4 9 10 28 3 1 [.row 4,.row 5,.row 6,.row 25,.row 7,.row 26,.lit (.int .i64 a.2.2.2.2.1),.row 8,.row 27,.lit (.int .i64 a.2.2.2.2.2.2),.row 28,.lit (.slice none 0 0)] ?_
 refine C4 9 11 29 42 4 [.row 4,.row 5,.row 6,.row 25,.row 7,.row 26,.lit (.int .i64 a.2.2.2.2.1),.row 8,.row 27,.lit (.int .i64 a.2.2.2.2.2.2),.row 28,.row 29] ?_
 refine cf3 (fun k=>B6.l1 k b) (fun l m n o p q s t u v w x i y=>⟨[(2,.box 0 0),(7,.box 9 0),(8,.row 10),(32,.sl .o 7 (b.map e62)),(33,.lit (.int .i64 (b.length : Int))),(34,.lit (.int .i64 y))],[(0,.box 37 [.lit (.slice none 0 0),.lit (.slice none 0 0),.lit (.slice none 0 0),.lit (.slice none 0 0),.lit (.slice none 0 0),.lit (.slice none 0 0),.lit (.int .i64 0),.lit (.slice none 0 0),.lit (.slice none 0 0),.lit (.int .i64 0),.lit (.slice none 0 0),.lit (.slice none 0 0)]),(4,.row 102 1 (l.map (eL 1 (eL 4 (r8))))),(5,.row 50 4 (m.map M5)),(6,.row 48 5 (n.map L2)),(7,.row 3 1 (p.map (eI .i64))),(8,.row 3 1 (t.map (eI .i64))),(9,.box 37 [.row 4,.row 5,.row 6,.row 25,.row 7,.row 26,.lit (.int .i64 s),.row 8,.row 27,.lit (.int .i64 v),.row 28,.row 29]),(10,.row 3 1 (i.map (eI .i64))),(25,.row 96 6 (o.map I2)),(26,.row 116 6 (q.map C9)),(27,.row 108 3 (u.map F9)),(28,.row 3 1 (w.map (eI .i64))),(29,.row 42 4 (x.map M6))]⟩) H (fun _ h=>aw hE [] h) (fun _ _ _ _ _ _ _ _ _ _ _ _ _ _ _=>B6.l1.eq_2 ..) fun P l m n o p q s t u v w x i y Q H R G=>?_
 refine d8<|c9<|rn rfl<|d9<|c8<|d8 ?_
 obtain ⟨d,H⟩|⟨d,H⟩:=oi H
 ·refine iT (decide_eq_true d)<|i9<|c8<|d8<|j4<|d8<|c9 ?_
  obtain ⟨I,H⟩:=i8 H
  refine k0 (iS I d) ?_
  refine rn rfl<|k1 (al 30) ?_
  refine rn rfl<|d9<|c8<|d8<|c9<|rn rfl ?_
  obtain ⟨z,J,H⟩:=f6 H
  refine kC (cl (F7.ok J) [31,32,33,34,35,36,37,38,39,40]) ?_
  refine rn rfl<|k1 (al 41) ?_
  refine rn rfl<|d9<|c8<|d8<|c9<|rn rfl<|d9<|c8<|c9<|rn rfl<|k1 (u7 42 3 1 [.int .i64 0] (([z.2.2.2.2.2.2.2.2.2.2.2.2] : List Int).map (eI .i64))) ?_
  obtain ⟨K,H⟩:=i8 H
  refine k3 (D7 43 3 1 8 [.int .i64 0] ((i ++ ([z.2.2.2.2.2.2.2.2.2.2.2.2] : List Int)).map (eI .i64)) (.row rfl) (D8 K rfl) z7) ?_
  refine rn rfl<|d9<|j6<|c8<|c9<|rn rfl<|d9<|l6 ?_
  exact aw hE [(4,31),(5,32),(6,33),(7,35),(8,37),(10,43),(25,34),(26,36),(27,38),(28,39),(29,40)] (G (Nat.le_refl _) H)
 refine iF (decide_eq_false d)<|m6<|j5<|j5<|n7 rfl<|c8<|d8<|c9<|rn rfl<|d9<|c8<|f7 ?_
 obtain rfl:=si H
 exact rt hE [(0,4),(1,5),(2,6),(3,25),(4,7),(5,26),(6,8),(7,27),(8,28),(9,29)] (hr:=(D5 12 (.tmp (.tmp .nil))))
end Go.Proofs.YtahmbcgolnplgaaGreat.PFnNoHoles
