import Derived.Test.YtahmbcgolnplgaaGreatPFnNoHolesx1
set_option linter.unusedVariables false
set_option linter.unusedSimpArgs false
set_option autoImplicit true
set_option relaxedAutoImplicit true
set_option maxRecDepth 100000
set_option maxHeartbeats 4000000
namespace Go.Proofs.YtahmbcgolnplgaaGreat.PFnNoHoles
open Go Go.RowKit Go.Proofs.YtahmbcgolnplgaaGreatA
mutual
def n5.l0 : Nat→Int→(List Int)→Int→Int→(List A6)→Int→Y46
 | 0,_,_,_,_,_,_=>none
 | s + 1,c,u,v,w,r,j=>if j < 2 then (L9.f u v w 6).bind fun h=>if h.1 = true then n5.l0 s c h.2.1 h.2.2.1 h.2.2.2 r (wrap64 (j + 1)) else ((R8.f h.2.1 h.2.2.1 h.2.2.2 ([(⟨#[97,114,99,104,32,54,50,32,59,32,100,101,102,97,117,108,116,32,108,111,103,32,59]⟩ : ByteArray),(⟨#[97,114,99,104,32,54,50,32,59,32,100,101,102,97,117,108,116,32,97,108,108,111,119,32,59,32,111,110,32,114,101,97,100,32,44,32,119,114,105,116,101,32,44,32,111,112,101,110,32,100,111,32,108,111,103,32,59]⟩ : ByteArray)] : List ByteArray)).bind fun k=>(if r.length + ([(⟨2,j,0,(⟨0,0,([] : List r7)⟩ : N7),k.1⟩ : A6)] : List A6).length < 1759218604441 then n5.l0 s c k.2.1 k.2.2.1 k.2.2.2 (r ++ ([(⟨2,j,0,(⟨0,0,([] : List r7)⟩ : N7),k.1⟩ : A6)] : List A6)) (wrap64 (j + 1)) else none)) else n5.l1 s c u v w r
def n5.l1 : Nat→Int→(List Int)→Int→Int→(List A6)→Y46
 | 0,_,_,_,_,_=>none
 | e + 1,c,x,y,z,b=>if (b.length : Int) < c then (n9.f x y z 2).bind fun d=>(n9.f d.2.1 d.2.2.1 d.2.2.2 6).bind fun g=>(n9.f g.2.1 g.2.2.1 g.2.2.2 24).bind fun a=>if a.1 < 8 then ((M1.f e a.2.1 a.2.2.1 a.2.2.2).bind fun i=>if b.length + ([(⟨1,d.1,0,(⟨i.1,g.1,i.2.2.1⟩ : N7),ByteArray.empty⟩ : A6)] : List A6).length < 1759218604441 then n5.l1 e c i.2.2.2.1 i.2.2.2.2.1 i.2.2.2.2.2 (b ++ ([(⟨1,d.1,0,(⟨i.1,g.1,i.2.2.1⟩ : N7),ByteArray.empty⟩ : A6)] : List A6)) else none) else if a.1 = 8 then ((n9.f a.2.1 a.2.2.1 a.2.2.2 3).bind fun l=>((V6.f e l.2.1 l.2.2.1 l.2.2.2).bind fun m=>(if b.length + ([(⟨2,l.1,0,(⟨0,0,([] : List r7)⟩ : N7),m.1⟩ : A6)] : List A6).length < 1759218604441 then n5.l1 e c m.2.1 m.2.2.1 m.2.2.2 (b ++ ([(⟨2,l.1,0,(⟨0,0,([] : List r7)⟩ : N7),m.1⟩ : A6)] : List A6)) else none))) else if a.1 = 9 then (if b.length + ([(⟨3,0,g.1,(⟨0,0,([] : List r7)⟩ : N7),ByteArray.empty⟩ : A6)] : List A6).length < 1759218604441 then n5.l1 e c a.2.1 a.2.2.1 a.2.2.2 (b ++ ([(⟨3,0,g.1,(⟨0,0,([] : List r7)⟩ : N7),ByteArray.empty⟩ : A6)] : List A6)) else none) else if a.1 < 13 then (if b.length + ([(⟨4,d.1,0,(⟨0,0,([] : List r7)⟩ : N7),ByteArray.empty⟩ : A6),(⟨5,d.1,1,(⟨0,0,([] : List r7)⟩ : N7),ByteArray.empty⟩ : A6)] : List A6).length < 1759218604441 then n5.l1 e c a.2.1 a.2.2.1 a.2.2.2 (b ++ ([(⟨4,d.1,0,(⟨0,0,([] : List r7)⟩ : N7),ByteArray.empty⟩ : A6),(⟨5,d.1,1,(⟨0,0,([] : List r7)⟩ : N7),ByteArray.empty⟩ : A6)] : List A6)) else none) else if a.1 < 18 then ((n9.f a.2.1 a.2.2.1 a.2.2.2 3).bind fun n=>(if b.length + ([(⟨6,0,n.1,(⟨0,0,([] : List r7)⟩ : N7),ByteArray.empty⟩ : A6)] : List A6).length < 1759218604441 then n5.l1 e c n.2.1 n.2.2.1 n.2.2.2 (b ++ ([(⟨6,0,n.1,(⟨0,0,([] : List r7)⟩ : N7),ByteArray.empty⟩ : A6)] : List A6)) else none)) else if a.1 = 18 then ((B4.f a.2.1 a.2.2.1 a.2.2.2 ([7,8] : List Int)).bind fun o=>((n9.f o.2.1 o.2.2.1 o.2.2.2 3).bind fun p=>(if b.length + ([(⟨o.1,0,p.1,(⟨0,0,([] : List r7)⟩ : N7),ByteArray.empty⟩ : A6)] : List A6).length < 1759218604441 then n5.l1 e c p.2.1 p.2.2.1 p.2.2.2 (b ++ ([(⟨o.1,0,p.1,(⟨0,0,([] : List r7)⟩ : N7),ByteArray.empty⟩ : A6)] : List A6)) else none))) else if a.1 = 19 then ((n9.f a.2.1 a.2.2.1 a.2.2.2 3).bind fun q=>(if b.length + ([(⟨9,wrap64 (3 * g.1),q.1,(⟨0,0,([] : List r7)⟩ : N7),ByteArray.empty⟩ : A6)] : List A6).length < 1759218604441 then n5.l1 e c q.2.1 q.2.2.1 q.2.2.2 (b ++ ([(⟨9,wrap64 (3 * g.1),q.1,(⟨0,0,([] : List r7)⟩ : N7),ByteArray.empty⟩ : A6)] : List A6)) else none)) else if a.1 = 20 then (if b.length + ([(⟨10,0,0,(⟨0,0,([] : List r7)⟩ : N7),ByteArray.empty⟩ : A6),(⟨12,d.1,0,(⟨0,0,([] : List r7)⟩ : N7),ByteArray.empty⟩ : A6)] : List A6).length < 1759218604441 then n5.l1 e c a.2.1 a.2.2.1 a.2.2.2 (b ++ ([(⟨10,0,0,(⟨0,0,([] : List r7)⟩ : N7),ByteArray.empty⟩ : A6),(⟨12,d.1,0,(⟨0,0,([] : List r7)⟩ : N7),ByteArray.empty⟩ : A6)] : List A6)) else none) else if a.1 = 21 then (if b.length + ([(⟨11,0,0,(⟨0,0,([] : List r7)⟩ : N7),ByteArray.empty⟩ : A6)] : List A6).length < 1759218604441 then n5.l1 e c a.2.1 a.2.2.1 a.2.2.2 (b ++ ([(⟨11,0,0,(⟨0,0,([] : List r7)⟩ : N7),ByteArray.empty⟩ : A6)] : List A6)) else none) else (if b.length + ([(⟨5,d.1,g.1,(⟨0,0,([] : List r7)⟩ : N7),ByteArray.empty⟩ : A6)] : List A6).length < 1759218604441 then n5.l1 e c a.2.1 a.2.2.1 a.2.2.2 (b ++ ([(⟨5,d.1,g.1,(⟨0,0,([] : List r7)⟩ : N7),ByteArray.empty⟩ : A6)] : List A6)) else none) else some b
def n5.j0 : Nat→((List Int)×Int×Int)→Int→Y46
 | 0,_,_=>none
 | B + 1,t,c=>n5.l0 B c t.1 t.2.1 t.2.2 ([] : List A6) 0
end
def n5.f (k : Nat) (a : List Int) : Y46:=(M8.f k a).bind fun b=>if (wrap64 (14 + (wrap64 ((a.length : Int).tdiv 3)))) > 80 then n5.j0 k b 80 else n5.j0 k b (wrap64 (14 + (wrap64 ((a.length : Int).tdiv 3))))
theorem n5.ok (H : n5.f k U = some r) : j7 Tryz.prog 36 [] [.sl .o 1 (U.map (eI .u8))] [(0,.row 62 7 (r.map e62))] (.row 0):=by
 refine u3 142 Tryz.func36 fun E hE=>?_
 rw [n5.f] at H
 refine d8<|c9<|rn rfl<|d9<|c8<|d8<|c9<|rn rfl ?_
 obtain ⟨i,V,H⟩:=f6 H
 refine kC (cl (M8.ok V) [0] .o) ?_
 refine rn rfl<|d9<|c8<|d8<|c9<|rn rfl<|k0 (G3 v7)<|k0 (aE2 (by decide : (3 : Int)≠0)) ?_
 refine rn rfl<|d9<|c8 ?_
 refine H0 (J:=Jc1 E 142 r k (fun k=>n5.j0 k i) (fun e=>⟨[(3,.box 0 0),(4,.lit (.int .i64 e))],[(0,.box 173 [.sl .o 1 (i.1.map (eI .u8)),.lit (.int .i64 i.2.1),.lit (.int .i64 i.2.2)])]⟩)) ?_ ?_
 ·intro aJ L
  refine d8<|c9<|rn rfl<|d9<|c8 ?_
  obtain ⟨t,H⟩|⟨t,H⟩:=oi H
  ·refine iT (decide_eq_true t)<|c9<|rn rfl<|d9<|l6 ?_
   exact aw hE [] (L.u (Nat.le_refl _) H)
  refine iF (decide_eq_false t)<|i9<|l6 ?_
  exact aw hE [] (L.u (Nat.le_refl _) H)
 refine jc1 (fun _ _=>n5.j0.eq_2 ..) fun aK e aL H=>?_
 refine d8<|c9<|k1 (u7 1 62 7 [.int .i64 0,.int .i64 0,.int .i64 0,.int .i64 0,.int .i64 0,.slice none 0 0,.string .empty] (([] : List A6).map e62)) ?_
 refine rn rfl<|d9<|c8<|d8<|d8<|c9<|rn rfl<|d9<|c8<|j4 ?_
 refine lp5 (fun k=>n5.l0 k e) (fun M N O u g=>⟨[(3,.box 0 0),(4,.lit (.int .i64 e)),(5,.row 1),(6,.lit (.int .i64 g))],[(0,.box 173 [.sl .o 1 (M.map (eI .u8)),.lit (.int .i64 N),.lit (.int .i64 O)]),(1,.row 62 7 (u.map e62))]⟩) H (fun _ h=>aw hE [] h) (fun _ _ _ _ _ _=>n5.l0.eq_2 ..) fun aM M N O u g aN H aO P=>?_
 refine d8<|d8<|c9<|rn rfl<|d9<|c8 ?_
 obtain ⟨v,H⟩|⟨v,H⟩:=oi H
 ·refine iT (decide_eq_true v)<|i9<|c8<|d8<|j4<|d8<|c9<|rn rfl ?_
  obtain ⟨aP,W,H⟩:=f6 H
  refine kC (cl (L9.ok W) [0] .o) ?_
  refine rn rfl<|d9<|c8 ?_
  obtain ⟨w,H⟩|⟨w,H⟩:=oi H
  ·refine iF (nF w)<|i9<|j6<|c8<|c9<|rn rfl<|d9<|l6 ?_
   exact aw hE [] (P (Nat.le_refl _) H)
  refine iT (nT (bF w))<|c9<|rn rfl<|k1 (u7 2 9 1 [.string .empty] (([(⟨#[97,114,99,104,32,54,50,32,59,32,100,101,102,97,117,108,116,32,108,111,103,32,59]⟩ : ByteArray),(⟨#[97,114,99,104,32,54,50,32,59,32,100,101,102,97,117,108,116,32,97,108,108,111,119,32,59,32,111,110,32,114,101,97,100,32,44,32,119,114,105,116,101,32,44,32,111,112,101,110,32,100,111,32,108,111,103,32,59]⟩ : ByteArray)] : List ByteArray).map eT')) ?_
  obtain ⟨j,X,H⟩:=f6 H
  refine kC (cl (R8.ok X) [0] .o)<|k0 (ag3 [.lit (.int .i64 2),.lit (.int .i64 g),.lit (.int .i64 0),.lit (.int .i64 0),.lit (.int .i64 0),.sl .n 2 (([] : List r7).map S2),.lit (.string j.1)] (bld [(0,1),(1,1),(2,1),(3,3),(6,1)] [.int .i64 0,.int .i64 0,.int .i64 0,.int .i64 0,.int .i64 0,.slice none 0 0,.string .empty] [.lit (.int .i64 2),.lit (.int .i64 g),.lit (.int .i64 0),.lit (.int .i64 0),.lit (.int .i64 0),.lit (.slice none 0 0),.lit (.string j.1)]))<|k1 (u7 3 62 7 [.int .i64 0,.int .i64 0,.int .i64 0,.int .i64 0,.int .i64 0,.slice none 0 0,.string .empty] (([(⟨2,g,0,(⟨0,0,([] : List r7)⟩ : N7),j.1⟩ : A6)] : List A6).map e62)) ?_
  obtain ⟨Y,H⟩:=i8 H
  refine k3 (D7 4 62 7 80 [.int .i64 0,.int .i64 0,.int .i64 0,.int .i64 0,.int .i64 0,.slice none 0 0,.string .empty] ((u ++ ([(⟨2,g,0,(⟨0,0,([] : List r7)⟩ : N7),j.1⟩ : A6)] : List A6)).map e62) (.row rfl) (D8 Y rfl) z7) ?_
  refine rn rfl<|d9<|j6<|c8<|c9<|rn rfl<|d9<|l6 ?_
  exact aw hE [(1,4)] (P (Nat.le_refl _) H)
 refine iF (decide_eq_false v)<|m6<|j5<|j5<|n7 rfl<|c8<|d8<|j4 ?_
 refine lp4 (fun k=>n5.l1 k e) (fun Q R T c=>⟨[(3,.box 0 0),(4,.lit (.int .i64 e)),(5,.row 1)],[(0,.box 173 [.sl .o 1 (Q.map (eI .u8)),.lit (.int .i64 R),.lit (.int .i64 T)]),(1,.row 62 7 (c.map e62))]⟩) H (fun _ h=>aw hE [] h) (fun _ _ _ _ _=>n5.l1.eq_2 ..) fun aQ Q R T c aR H aS d=>?_
 refine d8<|d8<|c9<|rn rfl<|k0 (lnR v7) ?_
 refine rn rfl<|d9<|c8 ?_
 obtain ⟨x,H⟩|⟨x,H⟩:=oi H
 ·refine iT (decide_eq_true x)<|i9<|c8<|j4<|d8<|c9<|rn rfl ?_
  obtain ⟨a,Z,H⟩:=f6 H
  refine kC (cl (n9.ok Z) [0] .o) ?_
  refine rn rfl<|d9<|c8<|d8<|c9<|rn rfl ?_
  obtain ⟨b,a0,H⟩:=f6 H
  refine kC (cl (n9.ok a0) [0] .o) ?_
  refine rn rfl<|d9<|c8<|d8<|c9<|rn rfl ?_
  obtain ⟨aT,a1,H⟩:=f6 H
  refine kC (cl (n9.ok a1) [0] .o) ?_
  refine rn rfl<|d9<|c8<|j4<|d8<|c9<|rn rfl<|d9<|c8 ?_
  obtain ⟨y,H⟩|⟨y,H⟩:=oi H
  ·refine iT (decide_eq_true y)<|d8<|c9<|rn rfl ?_
   obtain ⟨l,a2,H⟩:=f6 H
   refine kC (cl (M1.ok a2) [0,5] .o)<|k1 (al 6) ?_
   refine rn rfl<|d9<|c8<|d8<|c9<|rn rfl<|d9<|c8 ?_
   refine aq7 5<|c9 ?_
   refine rn rfl<|k1 (u7 8 62 7 [.int .i64 0,.int .i64 0,.int .i64 0,.int .i64 0,.int .i64 0,.slice none 0 0,.string .empty] (([(⟨1,a.1,0,(⟨l.1,b.1,l.2.2.1⟩ : N7),ByteArray.empty⟩ : A6)] : List A6).map e62)) ?_
   obtain ⟨a3,H⟩:=i8 H
   refine k3 (D7 9 62 7 80 [.int .i64 0,.int .i64 0,.int .i64 0,.int .i64 0,.int .i64 0,.slice none 0 0,.string .empty] ((c ++ ([(⟨1,a.1,0,(⟨l.1,b.1,l.2.2.1⟩ : N7),ByteArray.empty⟩ : A6)] : List A6)).map e62) (.row rfl) (D8 a3 rfl) z7) ?_
   refine rn rfl<|d9<|j6<|j6<|l6 ?_
   exact aw hE [(1,9)] (d (Nat.le_refl _) H)
  refine iF (decide_eq_false y)<|d8<|c9<|rn rfl<|d9<|c8 ?_
  obtain ⟨z,H⟩|⟨z,H⟩:=oi H
  ·refine iT (eT z)<|c9<|rn rfl ?_
   obtain ⟨m,a4,H⟩:=f6 H
   refine kC (cl (n9.ok a4) [0] .o) ?_
   refine rn rfl ?_
   obtain ⟨n,a5,H⟩:=f6 H
   refine kC (cl (V6.ok a5) [0] .o)<|k0 (ag3 [.lit (.int .i64 2),.lit (.int .i64 m.1),.lit (.int .i64 0),.lit (.int .i64 0),.lit (.int .i64 0),.sl .n 2 (([] : List r7).map S2),.lit (.string n.1)] (bld [(0,1),(1,1),(2,1),(3,3),(6,1)] [.int .i64 0,.int .i64 0,.int .i64 0,.int .i64 0,.int .i64 0,.slice none 0 0,.string .empty] [.lit (.int .i64 2),.lit (.int .i64 m.1),.lit (.int .i64 0),.lit (.int .i64 0),.lit (.int .i64 0),.lit (.slice none 0 0),.lit (.string n.1)]))<|k1 (u7 10 62 7 [.int .i64 0,.int .i64 0,.int .i64 0,.int .i64 0,.int .i64 0,.slice none 0 0,.string .empty] (([(⟨2,m.1,0,(⟨0,0,([] : List r7)⟩ : N7),n.1⟩ : A6)] : List A6).map e62)) ?_
   obtain ⟨a6,H⟩:=i8 H
   refine k3 (D7 11 62 7 80 [.int .i64 0,.int .i64 0,.int .i64 0,.int .i64 0,.int .i64 0,.slice none 0 0,.string .empty] ((c ++ ([(⟨2,m.1,0,(⟨0,0,([] : List r7)⟩ : N7),n.1⟩ : A6)] : List A6)).map e62) (.row rfl) (D8 a6 rfl) z7) ?_
   refine rn rfl<|d9<|j6<|j6<|l6 ?_
   exact aw hE [(1,11)] (d (Nat.le_refl _) H)
  refine iF (eF z)<|d8<|c9<|rn rfl<|d9<|c8 ?_
  obtain ⟨B,H⟩|⟨B,H⟩:=oi H
  ·refine iT (eT B)<|c9<|k0 mv<|k0 mv<|k0 (ag3 [.lit (.int .i64 3),.lit (.int .i64 0),.lit (.int .i64 b.1),.lit (.int .i64 0),.lit (.int .i64 0),.sl .n 2 (([] : List r7).map S2),.lit (.string ByteArray.empty)] (bld [(0,1),(1,1),(2,1),(3,3),(6,1)] [.int .i64 0,.int .i64 0,.int .i64 0,.int .i64 0,.int .i64 0,.slice none 0 0,.string .empty] [.lit (.int .i64 3),.lit (.int .i64 0),.lit (.int .i64 b.1),.lit (.int .i64 0),.lit (.int .i64 0),.lit (.slice none 0 0),.lit (.string ByteArray.empty)]))<|k1 (u7 12 62 7 [.int .i64 0,.int .i64 0,.int .i64 0,.int .i64 0,.int .i64 0,.slice none 0 0,.string .empty] (([(⟨3,0,b.1,(⟨0,0,([] : List r7)⟩ : N7),ByteArray.empty⟩ : A6)] : List A6).map e62)) ?_
   obtain ⟨a7,H⟩:=i8 H
   refine k3 (D7 13 62 7 80 [.int .i64 0,.int .i64 0,.int .i64 0,.int .i64 0,.int .i64 0,.slice none 0 0,.string .empty] ((c ++ ([(⟨3,0,b.1,(⟨0,0,([] : List r7)⟩ : N7),ByteArray.empty⟩ : A6)] : List A6)).map e62) (.row rfl) (D8 a7 rfl) z7) ?_
   refine rn rfl<|d9<|j6<|j6<|l6 ?_
   exact aw hE [(1,13)] (d (Nat.le_refl _) H)
  refine iF (eF B)<|d8<|c9<|rn rfl<|d9<|c8 ?_
  obtain ⟨C,H⟩|⟨C,H⟩:=oi H
  ·refine iT (decide_eq_true C)<|c9<|k0 mv<|k0 mv<|k0 (ag3 [.lit (.int .i64 4),.lit (.int .i64 a.1),.lit (.int .i64 0),.lit (.int .i64 0),.lit (.int .i64 0),.sl .n 2 (([] : List r7).map S2),.lit (.string ByteArray.empty)] (bld [(0,1),(1,1),(2,1),(3,3),(6,1)] [.int .i64 0,.int .i64 0,.int .i64 0,.int .i64 0,.int .i64 0,.slice none 0 0,.string .empty] [.lit (.int .i64 4),.lit (.int .i64 a.1),.lit (.int .i64 0),.lit (.int .i64 0),.lit (.int .i64 0),.lit (.slice none 0 0),.lit (.string ByteArray.empty)]))<|k0 mv<|k0 (ag3 [.lit (.int .i64 5),.lit (.int .i64 a.1),.lit (.int .i64 1),.lit (.int .i64 0),.lit (.int .i64 0),.sl .n 2 (([] : List r7).map S2),.lit (.string ByteArray.empty)] (bld [(0,1),(1,1),(2,1),(3,3),(6,1)] [.int .i64 0,.int .i64 0,.int .i64 0,.int .i64 0,.int .i64 0,.slice none 0 0,.string .empty] [.lit (.int .i64 5),.lit (.int .i64 a.1),.lit (.int .i64 1),.lit (.int .i64 0),.lit (.int .i64 0),.lit (.slice none 0 0),.lit (.string ByteArray.empty)]))<|k1 (u7 14 62 7 [.int .i64 0,.int .i64 0,.int .i64 0,.int .i64 0,.int .i64 0,.slice none 0 0,.string .empty] (([(⟨4,a.1,0,(⟨0,0,([] : List r7)⟩ : N7),ByteArray.empty⟩ : A6),(⟨5,a.1,1,(⟨0,0,([] : List r7)⟩ : N7),ByteArray.empty⟩ : A6)] : List A6).map e62)) ?_
   obtain ⟨a8,H⟩:=i8 H
   refine k3 (D7 15 62 7 80 [.int .i64 0,.int .i64 0,.int .i64 0,.int .i64 0,.int .i64 0,.slice none 0 0,.string .empty] ((c ++ ([(⟨4,a.1,0,(⟨0,0,([] : List r7)⟩ : N7),ByteArray.empty⟩ : A6),(⟨5,a.1,1,(⟨0,0,([] : List r7)⟩ : N7),ByteArray.empty⟩ : A6)] : List A6)).map e62) (.row rfl) (D8 a8 rfl) z7) ?_
   refine rn rfl<|d9<|j6<|j6<|l6 ?_
   exact aw hE [(1,15)] (d (Nat.le_refl _) H)
  refine iF (decide_eq_false C)<|d8<|c9<|rn rfl<|d9<|c8 ?_
  obtain ⟨D,H⟩|⟨D,H⟩:=oi H
  ·refine iT (decide_eq_true D)<|c9<|rn rfl ?_
   obtain ⟨o,a9,H⟩:=f6 H
   refine kC (cl (n9.ok a9) [0] .o)<|k0 (ag3 [.lit (.int .i64 6),.lit (.int .i64 0),.lit (.int .i64 o.1),.lit (.int .i64 0),.lit (.int .i64 0),.sl .n 2 (([] : List r7).map S2),.lit (.string ByteArray.empty)] (bld [(0,1),(1,1),(2,1),(3,3),(6,1)] [.int .i64 0,.int .i64 0,.int .i64 0,.int .i64 0,.int .i64 0,.slice none 0 0,.string .empty] [.lit (.int .i64 6),.lit (.int .i64 0),.lit (.int .i64 o.1),.lit (.int .i64 0),.lit (.int .i64 0),.lit (.slice none 0 0),.lit (.string ByteArray.empty)]))<|k1 (u7 16 62 7 [.int .i64 0,.int .i64 0,.int .i64 0,.int .i64 0,.int .i64 0,.slice none 0 0,.string .empty] (([(⟨6,0,o.1,(⟨0,0,([] : List r7)⟩ : N7),ByteArray.empty⟩ : A6)] : List A6).map e62)) ?_
   obtain ⟨aA,H⟩:=i8 H
   refine k3 (D7 17 62 7 80 [.int .i64 0,.int .i64 0,.int .i64 0,.int .i64 0,.int .i64 0,.slice none 0 0,.string .empty] ((c ++ ([(⟨6,0,o.1,(⟨0,0,([] : List r7)⟩ : N7),ByteArray.empty⟩ : A6)] : List A6)).map e62) (.row rfl) (D8 aA rfl) z7) ?_
   refine rn rfl<|d9<|j6<|j6<|l6 ?_
   exact aw hE [(1,17)] (d (Nat.le_refl _) H)
  refine iF (decide_eq_false D)<|d8<|c9<|rn rfl<|d9<|c8 ?_
  obtain ⟨F,H⟩|⟨F,H⟩:=oi H
  ·refine iT (eT F)<|c9<|rn rfl<|k1 (u7 18 3 1 [.int .i64 0] (([7,8] : List Int).map (eI .i64))) ?_
   obtain ⟨p,aB,H⟩:=f6 H
   refine kC (cl (B4.ok aB) [0] .o) ?_
   refine rn rfl ?_
   obtain ⟨q,aC,H⟩:=f6 H
   refine kC (cl (n9.ok aC) [0] .o)<|k0 (ag3 [.lit (.int .i64 p.1),.lit (.int .i64 0),.lit (.int .i64 q.1),.lit (.int .i64 0),.lit (.int .i64 0),.sl .n 2 (([] : List r7).map S2),.lit (.string ByteArray.empty)] (bld [(0,1),(1,1),(2,1),(3,3),(6,1)] [.int .i64 0,.int .i64 0,.int .i64 0,.int .i64 0,.int .i64 0,.slice none 0 0,.string .empty] [.lit (.int .i64 p.1),.lit (.int .i64 0),.lit (.int .i64 q.1),.lit (.int .i64 0),.lit (.int .i64 0),.lit (.slice none 0 0),.lit (.string ByteArray.empty)]))<|k1 (u7 19 62 7 [.int .i64 0,.int .i64 0,.int .i64 0,.int .i64 0,.int .i64 0,.slice none 0 0,.string .empty] (([(⟨p.1,0,q.1,(⟨0,0,([] : List r7)⟩ : N7),ByteArray.empty⟩ : A6)] : List A6).map e62)) ?_
   obtain ⟨aD,H⟩:=i8 H
   refine k3 (D7 20 62 7 80 [.int .i64 0,.int .i64 0,.int .i64 0,.int .i64 0,.int .i64 0,.slice none 0 0,.string .empty] ((c ++ ([(⟨p.1,0,q.1,(⟨0,0,([] : List r7)⟩ : N7),ByteArray.empty⟩ : A6)] : List A6)).map e62) (.row rfl) (D8 aD rfl) z7) ?_
   refine rn rfl<|d9<|j6<|j6<|l6 ?_
   exact aw hE [(1,20)] (d (Nat.le_refl _) H)
  refine iF (eF F)<|d8<|c9<|rn rfl<|d9<|c8 ?_
  obtain ⟨G,H⟩|⟨G,H⟩:=oi H
  ·refine iT (eT G)<|c9<|rn rfl ?_
   obtain ⟨s,aE,H⟩:=f6 H
   refine kC (cl (n9.ok aE) [0] .o)<|k0 (ag3 [.lit (.int .i64 9),.lit (.int .i64 (wrap64 (3 * b.1))),.lit (.int .i64 s.1),.lit (.int .i64 0),.lit (.int .i64 0),.sl .n 2 (([] : List r7).map S2),.lit (.string ByteArray.empty)] (bld [(0,1),(1,1),(2,1),(3,3),(6,1)] [.int .i64 0,.int .i64 0,.int .i64 0,.int .i64 0,.int .i64 0,.slice none 0 0,.string .empty] [.lit (.int .i64 9),.lit (.int .i64 (wrap64 (3 * b.1))),.lit (.int .i64 s.1),.lit (.int .i64 0),.lit (.int .i64 0),.lit (.slice none 0 0),.lit (.string ByteArray.empty)]))<|k1 (u7 21 62 7 [.int .i64 0,.int .i64 0,.int .i64 0,.int .i64 0,.int .i64 0,.slice none 0 0,.string .empty] (([(⟨9,wrap64 (3 * b.1),s.1,(⟨0,0,([] : List r7)⟩ : N7),ByteArray.empty⟩ : A6)] : List A6).map e62)) ?_
   obtain ⟨aF,H⟩:=i8 H
   refine k3 (D7 22 62 7 80 [.int .i64 0,.int .i64 0,.int .i64 0,.int .i64 0,.int .i64 0,.slice none 0 0,.string .empty] ((c ++ ([(⟨9,wrap64 (3 * b.1),s.1,(⟨0,0,([] : List r7)⟩ : N7),ByteArray.empty⟩ : A6)] : List A6)).map e62) (.row rfl) (D8 aF rfl) z7) ?_
   refine rn rfl<|d9<|j6<|j6<|l6 ?_
   exact aw hE [(1,22)] (d (Nat.le_refl _) H)
  refine iF (eF G)<|d8<|c9<|rn rfl<|d9<|c8 ?_
  obtain ⟨I,H⟩|⟨I,H⟩:=oi H
  ·refine iT (eT I)<|c9<|k0 mv<|k0 (ag3 [.lit (.int .i64 10),.lit (.int .i64 0),.lit (.int .i64 0),.lit (.int .i64 0),.lit (.int .i64 0),.sl .n 2 (([] : List r7).map S2),.lit (.string ByteArray.empty)] (bld [(0,1),(1,1),(2,1),(3,3),(6,1)] [.int .i64 0,.int .i64 0,.int .i64 0,.int .i64 0,.int .i64 0,.slice none 0 0,.string .empty] [.lit (.int .i64 10),.lit (.int .i64 0),.lit (.int .i64 0),.lit (.int .i64 0),.lit (.int .i64 0),.lit (.slice none 0 0),.lit (.string ByteArray.empty)]))<|k0 mv<|k0 (ag3 [.lit (.int .i64 12),.lit (.int .i64 a.1),.lit (.int .i64 0),.lit (.int .i64 0),.lit (.int .i64 0),.sl .n 2 (([] : List r7).map S2),.lit (.string ByteArray.empty)] (bld [(0,1),(1,1),(2,1),(3,3),(6,1)] [.int .i64 0,.int .i64 0,.int .i64 0,.int .i64 0,.int .i64 0,.slice none 0 0,.string .empty] [.lit (.int .i64 12),.lit (.int .i64 a.1),.lit (.int .i64 0),.lit (.int .i64 0),.lit (.int .i64 0),.lit (.slice none 0 0),.lit (.string ByteArray.empty)]))<|k1 (u7 23 62 7 [.int .i64 0,.int .i64 0,.int .i64 0,.int .i64 0,.int .i64 0,.slice none 0 0,.string .empty] (([(⟨10,0,0,(⟨0,0,([] : List r7)⟩ : N7),ByteArray.empty⟩ : A6),(⟨12,a.1,0,(⟨0,0,([] : List r7)⟩ : N7),ByteArray.empty⟩ : A6)] : List A6).map e62)) ?_
   obtain ⟨aG,H⟩:=i8 H
   refine k3 (D7 24 62 7 80 [.int .i64 0,.int .i64 0,.int .i64 0,.int .i64 0,.int .i64 0,.slice none 0 0,.string .empty] ((c ++ ([(⟨10,0,0,(⟨0,0,([] : List r7)⟩ : N7),ByteArray.empty⟩ : A6),(⟨12,a.1,0,(⟨0,0,([] : List r7)⟩ : N7),ByteArray.empty⟩ : A6)] : List A6)).map e62) (.row rfl) (D8 aG rfl) z7) ?_
   refine rn rfl<|d9<|j6<|j6<|l6 ?_
   exact aw hE [(1,24)] (d (Nat.le_refl _) H)
  refine iF (eF I)<|d8<|c9<|rn rfl<|d9<|c8 ?_
  obtain ⟨K,H⟩|⟨K,H⟩:=oi H
  ·refine iT (eT K)<|c9<|k0 mv<|k0 (ag3 [.lit (.int .i64 11),.lit (.int .i64 0),.lit (.int .i64 0),.lit (.int .i64 0),.lit (.int .i64 0),.sl .n 2 (([] : List r7).map S2),.lit (.string ByteArray.empty)] (bld [(0,1),(1,1),(2,1),(3,3),(6,1)] [.int .i64 0,.int .i64 0,.int .i64 0,.int .i64 0,.int .i64 0,.slice none 0 0,.string .empty] [.lit (.int .i64 11),.lit (.int .i64 0),.lit (.int .i64 0),.lit (.int .i64 0),.lit (.int .i64 0),.lit (.slice none 0 0),.lit (.string ByteArray.empty)]))<|k1 (u7 25 62 7 [.int .i64 0,.int .i64 0,.int .i64 0,.int .i64 0,.int .i64 0,.slice none 0 0,.string .empty] (([(⟨11,0,0,(⟨0,0,([] : List r7)⟩ : N7),ByteArray.empty⟩ : A6)] : List A6).map e62)) ?_
   obtain ⟨aH,H⟩:=i8 H
   refine k3 (D7 26 62 7 80 [.int .i64 0,.int .i64 0,.int .i64 0,.int .i64 0,.int .i64 0,.slice none 0 0,.string .empty] ((c ++ ([(⟨11,0,0,(⟨0,0,([] : List r7)⟩ : N7),ByteArray.empty⟩ : A6)] : List A6)).map e62) (.row rfl) (D8 aH rfl) z7) ?_
   refine rn rfl<|d9<|j6<|j6<|l6 ?_
   exact aw hE [(1,26)] (d (Nat.le_refl _) H)
  refine iF (eF K)<|c9<|k0 mv<|k0 mv<|k0 mv<|k0 (ag3 [.lit (.int .i64 5),.lit (.int .i64 a.1),.lit (.int .i64 b.1),.lit (.int .i64 0),.lit (.int .i64 0),.sl .n 2 (([] : List r7).map S2),.lit (.string ByteArray.empty)] (bld [(0,1),(1,1),(2,1),(3,3),(6,1)] [.int .i64 0,.int .i64 0,.int .i64 0,.int .i64 0,.int .i64 0,.slice none 0 0,.string .empty] [.lit (.int .i64 5),.lit (.int .i64 a.1),.lit (.int .i64 b.1),.lit (.int .i64 0),.lit (.int .i64 0),.lit (.slice none 0 0),.lit (.string ByteArray.empty)]))<|k1 (u7 27 62 7 [.int .i64 0,.int .i64 0,.int .i64 0,.int .i64 0,.int .i64 0,.slice none 0 0,.string .empty] (([(⟨5,a.1,b.1,(⟨0,0,([] : List r7)⟩ : N7),ByteArray.empty⟩ : A6)] : List A6).map e62)) ?_
  obtain ⟨aI,H⟩:=i8 H
  refine k3 (D7 28 62 7 80 [.int .i64 0,.int .i64 0,.int .i64 0,.int .i64 0,.int .i64 0,.slice none 0 0,.string .empty] ((c ++ ([(⟨5,a.1,b.1,(⟨0,0,([] : List r7)⟩ : N7),ByteArray.empty⟩ : A6)] : List A6)).map e62) (.row rfl) (D8 aI rfl) z7) ?_
  refine rn rfl<|d9<|j6<|j6<|l6 ?_
  exact aw hE [(1,28)] (d (Nat.le_refl _) H)
 refine iF (decide_eq_false x)<|m6<|j5<|j5<|n7 rfl<|c8<|d8<|c9<|rn rfl<|d9<|c8<|f7 ?_
 obtain rfl:=si H
 exact rt hE [(0,1)]
def U5.f (k : Nat) (a : List Int) : Y46:=(n5.f k a).bind fun b=>some b
theorem U5.ok (H : U5.f k a = some r) : j7 Tryz.prog 8 [] [.sl .o 1 (a.map (eI .u8))] [(0,.row 62 7 (r.map e62))] (.row 0):=by
 refine u3 5 Tryz.func8 fun E hE=>?_
 rw [U5.f] at H
 refine d8<|c9<|rn rfl<|d9<|c8<|d8<|c9<|rn rfl ?_
 obtain ⟨c,b,H⟩:=f6 H
 refine kC (cl (n5.ok b) [0]) ?_
 refine rn rfl<|d9<|c8<|f7 ?_
 obtain rfl:=si H
 exact rt hE []
def j8.f (a : Int) (b : Int) (c : Int) : P0:=if a ≥ b then some (decide (a≤c)) else some false
theorem j8.ok (H : j8.f b c d = some r) : j7 Tryz.prog 40 [] [.lit (.int .i64 b),.lit (.int .i64 c),.lit (.int .i64 d)] [] (.lit (.bool r)):=by
 refine u3 15 Tryz.func40 fun E hE=>?_
 rw [j8.f] at H
 refine d8<|c9<|rn rfl<|d9<|c8<|d8<|c9<|rn rfl ?_
 obtain ⟨a,H⟩|⟨a,H⟩:=oi H
 ·refine kv (g1 (decide_eq_true a)) mv<|kv (g1 (decide_eq_true a)) mv<|kv (g1 (decide_eq_true a)) leq ?_
  refine k0 (o8 (decide_eq_true a)) ?_
  refine rn rfl<|d9<|c8<|f7 ?_
  obtain rfl:=si H
  exact rt hE []
 iterate 3 refine kx (hT (decide_eq_false a)) ?_
 refine k0 (n8 (decide_eq_false a)) ?_
 refine rn rfl<|d9<|c8<|f7 ?_
 obtain rfl:=si H
 exact rt hE []
def x9.f (a : Int) : P0:=(j8.f a 0 4294967295).bind fun b=>some b
theorem x9.ok (H : x9.f a = some r) : j7 Tryz.prog 161 [] [.lit (.int .i64 a)] [] (.lit (.bool r)):=by
 refine u3 5 Tryz.func161 fun E hE=>?_
 rw [x9.f] at H
 refine d8<|c9<|rn rfl<|d9<|c8<|d8<|c9<|rn rfl ?_
 obtain ⟨c,b,H⟩:=f6 H
 refine kC (cl (j8.ok b) []) ?_
 refine rn rfl<|d9<|c8<|f7 ?_
 obtain rfl:=si H
 exact rt hE []
def R9.f (a : Int) (b : Int) : P0:=(x9.f a).bind fun c=>(if c = true then ((x9.f b).bind fun d=>some d) else some false)
theorem R9.ok (H : R9.f b c = some r) : j7 Tryz.prog 160 [] [.agg [.lit (.int .i64 b),.lit (.int .i64 c)]] [] (.lit (.bool r)):=by
 refine u3 11 Tryz.func160 fun E hE=>?_
 rw [R9.f] at H
 refine d8<|c9<|k1 (K2 0) ?_
 refine rn rfl<|d9<|c8<|d8<|c9<|rn rfl ?_
 obtain ⟨g,d,H⟩:=f6 H
 refine kC (cl (x9.ok d) []) ?_
 refine rn rfl ?_
 obtain ⟨a,H⟩|⟨a,H⟩:=oi H
 ·refine kv (g1 a) (y8 1 1)<|kv (g1 a) B5 ?_
  obtain ⟨h,e,H⟩:=f6 H
  refine N5 (g1 a) (cl (x9.ok e) []) ?_
  refine k0 (o8 a) ?_
  refine rn rfl<|d9<|c8<|f7 ?_
  obtain rfl:=si H
  exact rt hE []
 iterate 3 refine kx (hT (bF a)) ?_
 refine k0 (n8 (bF a)) ?_
 refine rn rfl<|d9<|c8<|f7 ?_
 obtain rfl:=si H
 exact rt hE []
def E5.l0 : Nat→Int→Int→(List r7)→Int→P0
 | 0,_,_,_,_=>none
 | e + 1,c,d,a,b=>if b < (a.length : Int) then if 0≤b then (R9.f ((ac1 a b).f0) ((ac1 a b).f1)).bind fun g=>if g = true then E5.l0 e c d a (wrap64 (b + 1)) else some false else none else (x9.f c).bind fun h=>(if h = true then ((x9.f d).bind fun i=>(if i = true then some ((a.length : Int) == 3) else some false)) else some false)
def E5.f (k : Nat) (a : Int) (b : Int) (c : List r7) : P0:=E5.l0 k a b c 0
theorem E5.ok (H : E5.f k e g c = some r) : j7 Tryz.prog 84 [] [.agg [.lit (.int .i64 e),.lit (.int .i64 g),.sl .o 2 (c.map S2)]] [] (.lit (.bool r)):=by
 refine u3 30 Tryz.func84 fun E hE=>?_
 rw [E5.f] at H
 refine d8<|c9<|k1 (K2 0) ?_
 refine rn rfl<|d9<|c8<|d8<|d8<|c9<|rn rfl<|k0 (G3 v7) ?_
 refine rn rfl<|d9<|c8<|j4 ?_
 refine lp1 (fun k=>E5.l0 k e g c) (fun j=>⟨[(1,.box 0 0),(6,.sl .o 2 (c.map S2)),(7,.lit (.int .i64 (c.length : Int))),(8,.lit (.int .i64 j))],[(0,.box 60 [.lit (.int .i64 e),.lit (.int .i64 g),.sl .o 2 (c.map S2)])]⟩) H (fun _ h=>aw hE [] h) (fun _ _=>E5.l0.eq_2 ..) fun q j s H t l=>?_
 refine d8<|c9<|rn rfl<|d9<|c8<|d8 ?_
 obtain ⟨d,H⟩|⟨d,H⟩:=oi H
 ·refine iT (decide_eq_true d)<|i9<|c8<|d8<|j4<|d8<|c9 ?_
  obtain ⟨m,H⟩:=i8 H
  refine k0 (iS m d) ?_
  refine rn rfl<|k1 (al 1) ?_
  refine rn rfl<|d9<|c8<|d8<|c9<|rn rfl ?_
  obtain ⟨u,n,H⟩:=f6 H
  refine kC (cl (R9.ok n) []) ?_
  refine rn rfl<|d9<|c8 ?_
  obtain ⟨i,H⟩|⟨i,H⟩:=oi H
  ·refine iF (nF i)<|i9<|j6<|c8<|c9<|rn rfl<|d9<|l6 ?_
   exact aw hE [] (l (Nat.le_refl _) H)
  refine iT (nT (bF i))<|d8<|c9<|rn rfl<|d9<|c8<|f7<|l7<|f8<|f8<|l7<|f8 ?_
  obtain rfl:=si H
  exact rt hE []
 refine iF (decide_eq_false d)<|m6<|j5<|j5<|n7 rfl<|c8<|d8<|c9<|rn rfl ?_
 obtain ⟨v,o,H⟩:=f6 H
 refine kC (cl (x9.ok o) []) ?_
 refine rn rfl ?_
 obtain ⟨b,H⟩|⟨b,H⟩:=oi H
 ·refine kv (g1 b) (y8 1 1)<|kv (g1 b) B5 ?_
  obtain ⟨w,p,H⟩:=f6 H
  refine N5 (g1 b) (cl (x9.ok p) []) ?_
  refine k0 (o8 b) ?_
  refine rn rfl ?_
  obtain ⟨a,H⟩|⟨a,H⟩:=oi H
  ·refine kv (g1 a) (y8 2 2)<|kv (g1 a) B5<|kv (g1 a) (G3 v7)<|kv (g1 a) eql ?_
   refine k0 (o8 a) ?_
   refine rn rfl<|d9<|c8<|f7 ?_
   obtain rfl:=si H
   exact rt hE []
  iterate 4 refine kx (hT (bF a)) ?_
  refine k0 (n8 (bF a)) ?_
  refine rn rfl<|d9<|c8<|f7 ?_
  obtain rfl:=si H
  exact rt hE []
 iterate 3 refine kx (hT (bF b)) ?_
 refine k0 (n8 (bF b)) ?_
 refine rn rfl ?_
 iterate 4 refine kx (hT rfl) ?_
 refine k0 (n8 rfl) ?_
 refine rn rfl<|d9<|c8<|f7 ?_
 obtain rfl:=si H
 exact rt hE []
def J0.j0 : Nat→Int→Int→Int→Int→Int→(List r7)→ByteArray→P0
 | 0,_,_,_,_,_,_,_=>none
 | c + 1,b,d,e,g,h,i,a=>if (a.toList == ByteArray.empty.toList) = true then some true else (if b = 2 then some (decide ((a.size : Int)≤1200)) else some false)
def J0.f (k : Nat) (a : Int) (e : Int) (g : Int) (b : Int) (c : Int) (d : List r7) (h : ByteArray) : P0:=(j8.f a 1 12).bind fun i=>(if i = true then (if e < 0 then some false else if g < 0 then some false else if a = 1 then ((E5.f k b c d).bind fun j=>(if j = true then J0.j0 k a e g b c d h else some false)) else (if b = 0 then (if c = 0 then if (d.length : Int) > 0 then some false else J0.j0 k a e g b c d h else some false) else some false)) else some false)
theorem J0.ok (H : J0.f k j l m n o p q = some r) : j7 Tryz.prog 24 [] [.agg [.lit (.int .i64 j),.lit (.int .i64 l),.lit (.int .i64 m),.lit (.int .i64 n),.lit (.int .i64 o),.sl .o 2 (p.map S2),.lit (.string q)]] [] (.lit (.bool r)):=by
 refine u3 64 Tryz.func24 fun E hE=>?_
 rw [J0.f] at H
 refine d8<|c9<|k1 (K2 0) ?_
 refine rn rfl<|d9<|c8<|d8<|d8<|c9<|rn rfl ?_
 obtain ⟨x,v,H⟩:=f6 H
 refine kC (cl (j8.ok v) []) ?_
 refine rn rfl ?_
 obtain ⟨h,H⟩|⟨h,H⟩:=oi H
 ·refine kv (g1 (nF h)) (y8 1 1)<|kv (g1 (nF h)) B5<|kv (g1 (nF h)) lss ?_
  refine k0 (n8 (nF h)) ?_
  refine rn rfl ?_
  obtain ⟨i,H⟩|⟨i,H⟩:=oi H
  ·iterate 3 refine kx (hF (decide_eq_true i)) ?_
   refine k0 (o8 (decide_eq_true i))<|d9<|c8<|iT rfl<|d8<|c9 ?_
   refine rn rfl<|d9<|c8<|f7<|f8 ?_
   obtain rfl:=si H
   exact rt hE []
  refine kv (g1 (decide_eq_false i)) (y8 2 2)<|kv (g1 (decide_eq_false i)) B5<|kv (g1 (decide_eq_false i)) lss ?_
  refine k0 (n8 (decide_eq_false i))<|d9<|c8 ?_
  obtain ⟨s,H⟩|⟨s,H⟩:=oi H
  ·refine iT (decide_eq_true s)<|d8<|c9<|rn rfl<|d9<|c8<|f7<|f8 ?_
   obtain rfl:=si H
   exact rt hE []
  refine iF (decide_eq_false s)<|i9<|c8 ?_
  refine H0 (J:=Jc0 E 64 r k (fun k=>J0.j0 k j l m n o p q) ⟨[(1,.box 0 0)],[(0,.box 62 [.lit (.int .i64 j),.lit (.int .i64 l),.lit (.int .i64 m),.lit (.int .i64 n),.lit (.int .i64 o),.sl .o 2 (p.map S2),.lit (.string q)])]⟩) ?_ ?_
  ·intro y u
   refine d8<|c9<|rn rfl ?_
   obtain ⟨a,H⟩|⟨a,H⟩:=oi H
   ·refine kv (g1 (eT a)) (y8 3 3)<|kv (g1 (eT a)) (bA 3) ?_
    obtain ⟨z,w,H⟩:=f6 H
    refine N5 (g1 (eT a)) (cl (E5.ok w) [])<|kv (g1 (eT a)) V4 ?_
    refine k0 (o8 (eT a)) ?_
    refine rn rfl ?_
    obtain ⟨c,H⟩|⟨c,H⟩:=oi H
    ·refine kv (g1 (nF c)) (y8 0 0)<|kv (g1 (nF c)) B5<|kv (g1 (nF c)) neq<|kv (g1 (nF c)) mv ?_
     iterate 4 refine kx (hT (eM a)) ?_
     refine ku (neT (hT (eM a))) ?_
     iterate 4 refine ku neU ?_
     refine kx (hT (eM a)) ?_
     refine ku (neT (hT (eM a))) ?_
     iterate 5 refine ku neU ?_
     refine kx (hT (eM a)) ?_
     refine kv (g1 (nF c)) (n8 (eM a)) ?_
     refine k0 (n8 (nF c))<|d9<|c8<|iF rfl<|i9<|l6 ?_
     exact aw hE [] (u.u (Nat.le_refl _) H)
    iterate 3 refine kx (hF (nT (bF c))) ?_
    refine ku (neT (hF (nT (bF c)))) ?_
    iterate 17 refine ku neU ?_
    refine kx (hF (nT (bF c))) ?_
    refine k0 (o8 (nT (bF c)))<|d9<|c8<|iT rfl<|d8<|c9 ?_
    refine rn rfl<|d9<|c8<|f7<|f8 ?_
    obtain rfl:=si H
    exact rt hE []
   iterate 4 refine kx (hT (eF a)) ?_
   refine k0 (n8 (eF a)) ?_
   refine rn rfl<|kv (g1 rfl) (y8 0 0)<|kv (g1 rfl) B5<|kv (g1 rfl) neq<|kv (g1 rfl) mv<|kv (g1 (eN a)) (y8 3 3)<|kv (g1 (eN a)) (y8 0 3)<|kv (g1 (eN a)) B5<|kv (g1 (eN a)) neq<|kv (g1 (eN a)) mv ?_
   obtain ⟨e,H⟩|⟨e,H⟩:=oi H
   ·refine kv (g1 (eM e)) (y8 3 3)<|kv (g1 (eM e)) (y8 1 4)<|kv (g1 (eM e)) B5<|kv (g1 (eM e)) neq ?_
    refine kv (g1 (eN a)) (n8 (eM e))<|kv (g1 (eN a)) mv ?_
    obtain ⟨d,H⟩|⟨d,H⟩:=oi H
    ·refine kv (g1 (eM d)) (y8 3 3)<|kv (g1 (eM d)) (y8 2 5)<|kv (g1 (eM d)) B5<|kv (g1 (eM d)) (G3 v7)<|kv (g1 (eM d)) gtr ?_
     refine kv (g1 (eN a)) (n8 (eM d)) ?_
     refine kv (g1 rfl) (o8 (eN a)) ?_
     refine k0 (n8 rfl)<|d9<|c8 ?_
     obtain ⟨t,H⟩|⟨t,H⟩:=oi H
     ·refine iT (decide_eq_true t)<|d8<|c9<|rn rfl<|d9<|c8<|f7<|f8 ?_
      obtain rfl:=si H
      exact rt hE []
     refine iF (decide_eq_false t)<|i9<|l6 ?_
     exact aw hE [] (u.u (Nat.le_refl _) H)
    iterate 5 refine kx (hF (eN d)) ?_
    refine kv (g1 (eN a)) (o8 (eN d)) ?_
    refine kv (g1 rfl) (o8 (eN a)) ?_
    refine k0 (n8 rfl)<|d9<|c8<|iT rfl<|d8<|c9 ?_
    refine rn rfl<|d9<|c8<|f7<|f8 ?_
    obtain rfl:=si H
    exact rt hE []
   iterate 4 refine kx (hF (eN e)) ?_
   refine kv (g1 (eN a)) (o8 (eN e))<|kv (g1 (eN a)) mv ?_
   iterate 5 refine kx (hF rfl) ?_
   refine kv (g1 (eN a)) (o8 rfl) ?_
   refine kv (g1 rfl) (o8 (eN a)) ?_
   refine k0 (n8 rfl)<|d9<|c8<|iT rfl<|d8<|c9 ?_
   refine rn rfl<|d9<|c8<|f7<|f8 ?_
   obtain rfl:=si H
   exact rt hE []
  refine jc0 (fun _=>J0.j0.eq_2 ..) fun B C H=>?_
  refine d8<|c9<|rn rfl ?_
  obtain ⟨b,H⟩|⟨b,H⟩:=oi H
  ·iterate 3 refine kx (hF b) ?_
   refine ku (neT (hF b)) ?_
   iterate 4 refine ku neU ?_
   refine kx (hF b) ?_
   refine k0 (o8 b) ?_
   refine rn rfl<|d9<|c8<|f7 ?_
   obtain rfl:=si H
   exact rt hE []
  refine kv (g1 (bF b)) (y8 0 0)<|kv (g1 (bF b)) B5<|kv (g1 (bF b)) eql<|kv (g1 (bF b)) mv ?_
  obtain ⟨g,H⟩|⟨g,H⟩:=oi H
  ·refine kv (g1 (eT g)) (y8 6 6)<|kv (g1 (eT g)) B5<|kv (g1 (eT g)) lnT<|kv (g1 (eT g)) leq ?_
   refine kv (g1 (bF b)) (o8 (eT g)) ?_
   refine k0 (n8 (bF b)) ?_
   refine rn rfl<|d9<|c8<|f7 ?_
   obtain rfl:=si H
   exact rt hE []
  iterate 4 refine kx (hT (eF g)) ?_
  refine kv (g1 (bF b)) (n8 (eF g)) ?_
  refine k0 (n8 (bF b)) ?_
  refine rn rfl<|d9<|c8<|f7 ?_
  obtain rfl:=si H
  exact rt hE []
 iterate 3 refine kx (hF (nT (bF h))) ?_
 refine k0 (o8 (nT (bF h))) ?_
 refine rn rfl ?_
 iterate 3 refine kx (hF rfl) ?_
 refine k0 (o8 rfl)<|d9<|c8<|iT rfl<|d8<|c9 ?_
 refine rn rfl<|d9<|c8<|f7<|f8 ?_
 obtain rfl:=si H
 exact rt hE []
def aa8.f  : Option ((List Int)×Int×(List Int)):=some (([1,1,1] : List Int),0,([1,1,1] : List Int))
theorem aa8.ok (H : aa8.f = some r) : j7 Tryz.prog 70 [] [] [(0,.row 3 1 (r.1.map (eI .i64))),(1,.row 3 1 (r.2.2.map (eI .i64)))] (.agg [.lit (.slice none 0 0),.row 0,.lit (.slice none 0 0),.lit (.int .i64 r.2.1),.row 1]):=by
 refine u3 4 Tryz.func70 fun E hE=>?_
 rw [aa8.f] at H
 refine d8<|c9<|k1 (al 0)<|d9<|c8<|d8<|c9<|k1 (u7 1 3 1 [.int .i64 0] (([1,1,1] : List Int).map (eI .i64)))<|k1 (u7 2 3 1 [.int .i64 0] (([1,1,1] : List Int).map (eI .i64))) ?_
 refine rn rfl<|d9<|c8<|f7 ?_
 obtain rfl:=si H
 exact rt hE [(0,1),(1,2)] (hr:=(D5 5 .nil))
def ai4.f  : Y28:=some (([] : List u5),5,0,0)
theorem ai4.ok (H : ai4.f = some r) : j7 Tryz.prog 71 [] [] [] (.agg [.sl .n 4 (r.1.map I1),.lit (.int .i64 r.2.1),.lit (.int .i64 r.2.2.1),.lit (.int .i64 r.2.2.2)]):=by
 refine u3 2 Tryz.func71 fun E hE=>?_
 rw [ai4.f] at H
 refine d8<|c9<|k1 (al 0)<|d9<|c8<|d8<|c9 ?_
 refine rn rfl<|d9<|c8<|f7 ?_
 refine bE7 0 [.sl .n 4 (([] : List u5).map I1),.lit (.int .i64 5),.lit (.int .i64 0),.lit (.int .i64 0)] ?_
 obtain rfl:=si H
 exact rt hE [] (hr:=(D5 4 .nil))
def ae4.f (a : Int) : Y23:=some (a,1,([] : List u5),0,1)
theorem ae4.ok (H : ae4.f a = some r) : j7 Tryz.prog 72 [] [.lit (.int .i64 a)] [] (.agg [.lit (.int .i64 r.1),.lit (.int .i64 r.2.1),.sl .n 4 (r.2.2.1.map I1),.lit (.int .i64 r.2.2.2.1),.lit (.int .i64 r.2.2.2.2)]):=by
 refine u3 5 Tryz.func72 fun E hE=>?_
 rw [ae4.f] at H
 refine d8<|c9<|k1 (al 0)<|d9<|c8<|d8<|c9 ?_
 refine rn rfl<|d9<|c8<|f7 ?_
 refine bE7 0 [.lit (.int .i64 a),.lit (.int .i64 1),.sl .n 4 (([] : List u5).map I1),.lit (.int .i64 0),.lit (.int .i64 1)] ?_
 obtain rfl:=si H
 exact rt hE [] (hr:=(D5 5 .nil))
def H5.l0 : Nat→((List Int)×Int×(List Int))→Y40→(List H7)→(List D3)→Int→Y6
 | 0,_,_,_,_,_=>none
 | i + 1,c,d,e,g,h=>if h < 3 then if d.length + ([([] : List (List f9))] : List (List (List f9))).length < 5864062014805 then (ai4.f).bind fun b=>(if e.length + ([(⟨b.1,b.2.1,b.2.2.1,b.2.2.2⟩ : H7)] : List H7).length < 2932031007402 then (ae4.f h).bind fun a=>(if g.length + ([(⟨a.1,a.2.1,a.2.2.1,a.2.2.2.1,a.2.2.2.2⟩ : D3)] : List D3).length < 2513169434916 then H5.l0 i c (d ++ ([([] : List (List f9))] : List (List (List f9)))) (e ++ ([(⟨b.1,b.2.1,b.2.2.1,b.2.2.2⟩ : H7)] : List H7)) (g ++ ([(⟨a.1,a.2.1,a.2.2.1,a.2.2.2.1,a.2.2.2.2⟩ : D3)] : List D3)) (wrap64 (h + 1)) else none) else none) else none else some (d,e,g,c.1,c.2.1,c.2.2,0)
def H5.f (k : Nat)  : Y6:=(aa8.f).bind fun a=>H5.l0 k a ([]) ([]) ([]) 0
theorem H5.ok (H : H5.f k = some r) : j7 Tryz.prog 18 [] [] [(0,.row 102 1 (r.1.map (eL 1 (eL 4 (r8))))),(1,.row 50 4 (r.2.1.map M5)),(2,.row 48 5 (r.2.2.1.map L2)),(3,.row 3 1 (r.2.2.2.1.map (eI .i64))),(4,.row 3 1 (r.2.2.2.2.2.1.map (eI .i64)))] (.agg [.row 0,.row 1,.row 2,.lit (.slice none 0 0),.row 3,.lit (.slice none 0 0),.lit (.int .i64 r.2.2.2.2.1),.row 4,.lit (.slice none 0 0),.lit (.int .i64 r.2.2.2.2.2.2),.lit (.slice none 0 0),.lit (.slice none 0 0)]):=by
 refine u3 29 Tryz.func18 fun E hE=>?_
 rw [H5.f] at H
 refine d8<|c9<|k1 (al 0)<|d9<|c8<|d8<|c9 ?_
 obtain ⟨c,l,H⟩:=f6 H
 refine kC (cl (aa8.ok l) [1,2]) ?_
 refine rn rfl<|k1 (al 3) ?_
 refine rn rfl<|d9<|c8<|d8<|d8<|c9<|rn rfl<|d9<|c8<|j4 ?_
 refine C4 3 0 11 102 1 [.row 11,.lit (.slice none 0 0),.lit (.slice none 0 0),.lit (.slice none 0 0),.row 1,.lit (.slice none 0 0),.lit (.int .i64 c.2.1),.row 2,.lit (.slice none 0 0),.lit (.int .i64 0),.lit (.slice none 0 0),.lit (.slice none 0 0)] ?_
 refine C4 3 1 12 50 4 [.row 11,.row 12,.lit (.slice none 0 0),.lit (.slice none 0 0),.row 1,.lit (.slice none 0 0),.lit (.int .i64 c.2.1),.row 2,.lit (.slice none 0 0),.lit (.int .i64 0),.lit (.slice none 0 0),.lit (.slice none 0 0)] ?_
 refine C4 3 2 13 48 5 [.row 11,.row 12,.row 13,.lit (.slice none 0 0),.row 1,.lit (.slice none 0 0),.lit (.int .i64 c.2.1),.row 2,.lit (.slice none 0 0),.lit (.int .i64 0),.lit (.slice none 0 0),.lit (.slice none 0 0)] ?_
 refine lp4 (fun k=>H5.l0 k c) (fun d e g j=>⟨[(0,.box 0 0),(1,.box 3 0),(5,.lit (.int .i64 j))],[(0,.box 37 [.lit (.slice none 0 0),.lit (.slice none 0 0),.lit (.slice none 0 0),.lit (.slice none 0 0),.lit (.slice none 0 0),.lit (.slice none 0 0),.lit (.int .i64 0),.lit (.slice none 0 0),.lit (.slice none 0 0),.lit (.int .i64 0),.lit (.slice none 0 0),.lit (.slice none 0 0)]),(1,.row 3 1 (c.1.map (eI .i64))),(2,.row 3 1 (c.2.2.map (eI .i64))),(3,.box 37 [.row 11,.row 12,.row 13,.lit (.slice none 0 0),.row 1,.lit (.slice none 0 0),.lit (.int .i64 c.2.1),.row 2,.lit (.slice none 0 0),.lit (.int .i64 0),.lit (.slice none 0 0),.lit (.slice none 0 0)]),(11,.row 102 1 (d.map (eL 1 (eL 4 (r8))))),(12,.row 50 4 (e.map M5)),(13,.row 48 5 (g.map L2))]⟩) H (fun _ h=>aw hE [] h) (fun _ _ _ _ _=>H5.l0.eq_2 ..) fun t d e g j u H v m=>?_
 refine d8<|c9<|rn rfl<|d9<|c8<|d8 ?_
 obtain ⟨i,H⟩|⟨i,H⟩:=oi H
 ·refine iT (decide_eq_true i)<|i9<|c8<|d8<|j4<|d8<|c9<|rn rfl<|d9<|c8<|d8<|c9<|k0 (y8 0 0)<|k0 B5<|k1 (bK2 (u7 14 104 1 [.slice none 0 0] (([] : List (List f9)).map (eL 4 (r8)))))<|k1 (u7 15 102 1 [.slice none 0 0] (([([] : List (List f9))] : List (List (List f9))).map (eL 1 (eL 4 (r8))))) ?_
  obtain ⟨n,H⟩:=i8 H
  refine k3 (D7 16 102 1 24 [.slice none 0 0] ((d ++ ([([] : List (List f9))] : List (List (List f9)))).map (eL 1 (eL 4 (r8)))) (.row rfl) (D8 n rfl) z7) ?_
  refine rn rfl<|d9<|c8<|d8<|c9<|rn rfl ?_
  obtain ⟨b,o,H⟩:=f6 H
  refine kC (cl (ai4.ok o) [])<|k1 (u7 17 50 4 [.slice none 0 0,.int .i64 0,.int .i64 0,.int .i64 0] (([(⟨b.1,b.2.1,b.2.2.1,b.2.2.2⟩ : H7)] : List H7).map M5)) ?_
  obtain ⟨p,H⟩:=i8 H
  refine k3 (D7 18 50 4 48 [.slice none 0 0,.int .i64 0,.int .i64 0,.int .i64 0] ((e ++ ([(⟨b.1,b.2.1,b.2.2.1,b.2.2.2⟩ : H7)] : List H7)).map M5) (.row rfl) (D8 p rfl) z7) ?_
  refine rn rfl<|ed<|c8<|c9<|rn rfl ?_
  obtain ⟨a,q,H⟩:=f6 H
  refine kC (cl (ae4.ok q) [])<|k1 (u7 19 48 5 [.int .i64 0,.int .i64 0,.slice none 0 0,.int .i64 0,.int .i64 0] (([(⟨a.1,a.2.1,a.2.2.1,a.2.2.2.1,a.2.2.2.2⟩ : D3)] : List D3).map L2)) ?_
  obtain ⟨s,H⟩:=i8 H
  refine k3 (D7 20 48 5 56 [.int .i64 0,.int .i64 0,.slice none 0 0,.int .i64 0,.int .i64 0] ((g ++ ([(⟨a.1,a.2.1,a.2.2.1,a.2.2.2.1,a.2.2.2.2⟩ : D3)] : List D3)).map L2) (.row rfl) (D8 s rfl) z7) ?_
  refine rn rfl<|ed<|j6<|c8<|c9<|rn rfl<|d9<|l6 ?_
  exact aw hE [(11,16),(12,18),(13,20)] (m (Nat.le_refl _) H)
 refine iF (decide_eq_false i)<|m6<|j5<|j5<|n7 rfl<|c8<|d8<|c9<|rn rfl<|d9<|c8<|f7 ?_
 obtain rfl:=si H
 exact rt hE [(0,11),(1,12),(2,13),(3,1),(4,2)] (hr:=(D5 12 .nil))
def I7.f (a : List Int) : Y47:=if ([] : List Int).length + a.length < 17592186044416 then some (([] : List Int) ++ a) else none
theorem I7.ok (H : I7.f a = some r) : j7 Tryz.prog 125 [] [.sl .o 1 (a.map (eI .i64))] [(0,.row 3 1 (r.map (eI .i64)))] (.row 0):=by
 refine u3 6 Tryz.func125 fun E hE=>?_
 rw [I7.f] at H
 refine d8<|c9<|rn rfl<|d9<|c8<|d8<|c9<|k1 (u7 0 3 1 [.int .i64 0] (([] : List Int).map (eI .i64))) ?_
 refine rn rfl ?_
 obtain ⟨b,H⟩:=i8 H
 refine k3 (D7 1 3 1 8 [.int .i64 0] ((([] : List Int) ++ a).map (eI .i64)) (.slF (flI)) (D8 b rfl) z7) ?_
 refine rn rfl<|d9<|c8<|f7 ?_
 obtain rfl:=si H
 exact rt hE [(0,1)]
def I5.f (a : List D1) (c : List Int) (b : List A2) (d : Int) (e : List Int) : Y13:=if ([] : List D1).length + a.length < 2932031007402 then ((I7.f c).bind fun g=>(if ([] : List A2).length + b.length < 2932031007402 then ((I7.f e).bind fun h=>some (([] : List D1) ++ a,g,([] : List A2) ++ b,d,h)) else none)) else none
theorem I5.ok (H : I5.f a c b d e = some r) : j7 Tryz.prog 124 [] [.agg [.sl .o 6 (a.map I2),.sl .o 1 (c.map (eI .i64)),.sl .o 6 (b.map C9),.lit (.int .i64 d),.sl .o 1 (e.map (eI .i64))]] [(0,.row 96 6 (r.1.map I2)),(1,.row 3 1 (r.2.1.map (eI .i64))),(2,.row 116 6 (r.2.2.1.map C9)),(3,.row 3 1 (r.2.2.2.2.map (eI .i64)))] (.agg [.row 0,.row 1,.row 2,.lit (.int .i64 r.2.2.2.1),.row 3]):=by
 refine u3 20 Tryz.func124 fun E hE=>?_
 rw [I5.f] at H
 refine d8<|c9<|k1 (K2 0)<|k1 (al 1)<|d9<|c8<|d8<|c9<|k1 (u7 2 96 6 [.int .i64 0,.int .i64 0,.int .i64 0,.int .i64 0,.int .i64 0,.int .i64 0] (([] : List D1).map I2)) ?_
 refine rn rfl ?_
 obtain ⟨g,H⟩:=i8 H
 refine k3 (D7 3 96 6 48 [.int .i64 0,.int .i64 0,.int .i64 0,.int .i64 0,.int .i64 0,.int .i64 0] ((([] : List D1) ++ a).map I2) (.slF (cb4)) (D8 g rfl) z7) ?_
 refine rn rfl ?_
 obtain ⟨k,h,H⟩:=f6 H
 refine kC (cl (I7.ok h) [4])<|k1 (u7 5 116 6 [.int .i64 0,.int .i64 0,.int .i64 0,.int .i64 0,.int .i64 0,.int .i64 0] (([] : List A2).map C9)) ?_
 refine rn rfl ?_
 obtain ⟨i,H⟩:=i8 H
 refine k3 (D7 6 116 6 48 [.int .i64 0,.int .i64 0,.int .i64 0,.int .i64 0,.int .i64 0,.int .i64 0] ((([] : List A2) ++ b).map C9) (.slF (ca2)) (D8 i rfl) z7) ?_
 refine rn rfl ?_
 obtain ⟨l,j,H⟩:=f6 H
 refine kC (cl (I7.ok j) [7]) ?_
 refine rn rfl<|ed<|c8<|f7 ?_
 obtain rfl:=si H
 exact rt hE [(0,3),(1,4),(2,6),(3,7)] (hr:=(D5 5 .nil))
def D0.l0 : Nat→Y51→Y51→Int→Y35
 | 0,_,_,_=>none
 | d + 1,b,c,a=>if a < (b.length : Int) then if 0≤a then if ([] : List f9).length + (M0 ([] : List f9) b a).length < 4398046511104 then (if c.length + ([([] : List f9) ++ (M0 ([] : List f9) b a)] : List (List f9)).length < 5864062014805 then D0.l0 d b (c ++ ([([] : List f9) ++ (M0 ([] : List f9) b a)] : List (List f9))) (wrap64 (a + 1)) else none) else none else none else some c
def D0.f (k : Nat) (a : Y53) : Y35:=D0.l0 k a ([] : List (List f9)) 0
theorem D0.ok (H : D0.f k a = some r) : j7 Tryz.prog 126 [] [.sl .o 1 (a.map (eL 4 (r8)))] [(0,.row 104 1 (r.map (eL 4 (r8))))] (.row 0):=by
 refine u3 21 Tryz.func126 fun E hE=>?_
 rw [D0.f] at H
 refine d8<|c9<|rn rfl<|d9<|c8<|d8<|c9<|k1 (u7 0 104 1 [.slice none 0 0] (([] : List (List f9)).map (eL 4 (r8)))) ?_
 refine rn rfl<|d9<|c8<|d8<|d8<|c9<|rn rfl<|k0 (G3 v7) ?_
 refine rn rfl<|d9<|c8<|j4 ?_
 refine V7 (fun k=>D0.l0 k a) (fun d b=>⟨[(3,.row 0),(7,.sl .o 1 (a.map (eL 4 (r8)))),(8,.lit (.int .i64 (a.length : Int))),(9,.lit (.int .i64 b))],[(0,.row 104 1 (d.map (eL 4 (r8))))]⟩) H (fun _ h=>aw hE [] h) (fun _ _ _=>D0.l0.eq_2 ..) fun l d b m H n e=>?_
 refine d8<|c9<|rn rfl<|d9<|c8<|d8 ?_
 obtain ⟨c,H⟩|⟨c,H⟩:=oi H
 ·refine iT (decide_eq_true c)<|i9<|c8<|d8<|j4<|d8<|c9 ?_
  obtain ⟨g,H⟩:=i8 H
  refine k0 (iS g c) ?_
  refine rn rfl<|d9<|c8<|c9<|rn rfl<|k1 (u7 1 176 4 [.int .i64 0,.int .i64 0,.int .i64 0,.int .i64 0] (([] : List f9).map r8)) ?_
  refine rn rfl ?_
  obtain ⟨i,H⟩:=i8 H
  refine k3 (bm3 (D7 2 176 4 32 [.int .i64 0,.int .i64 0,.int .i64 0,.int .i64 0] ((([] : List f9) ++ (M0 ([] : List f9) a b)).map r8) (.slF (bg4)) (D8 i rfl) z7))<|k1 (u7 3 104 1 [.slice none 0 0] (([([] : List f9) ++ (M0 ([] : List f9) a b)] : List (List f9)).map (eL 4 (r8)))) ?_
  obtain ⟨j,H⟩:=i8 H
  refine k3 (D7 4 104 1 24 [.slice none 0 0] ((d ++ ([([] : List f9) ++ (M0 ([] : List f9) a b)] : List (List f9))).map (eL 4 (r8))) (.row rfl) (D8 j rfl) z7) ?_
  refine rn rfl<|d9<|j6<|c8<|c9<|rn rfl<|d9<|l6 ?_
  exact aw hE [(0,4)] (e (Nat.le_refl _) H)
 refine iF (decide_eq_false c)<|m6<|j5<|j5<|n7 rfl<|c8<|d8<|c9<|rn rfl<|d9<|c8<|f7 ?_
 obtain rfl:=si H
 exact rt hE []
def K1.f (a : List u5) : Y48:=if ([] : List u5).length + a.length < 4398046511104 then some (([] : List u5) ++ a) else none
theorem K1.ok (H : K1.f a = some r) : j7 Tryz.prog 134 [] [.sl .o 4 (a.map I1)] [(0,.row 46 4 (r.map I1))] (.row 0):=by
 refine u3 6 Tryz.func134 fun E hE=>?_
 rw [K1.f] at H
 refine d8<|c9<|rn rfl<|d9<|c8<|d8<|c9<|k1 (u7 0 46 4 [.int .i64 0,.int .i64 0,.int .i64 0,.int .i64 0] (([] : List u5).map I1)) ?_
 refine rn rfl ?_
 obtain ⟨b,H⟩:=i8 H
 refine k3 (D7 1 46 4 32 [.int .i64 0,.int .i64 0,.int .i64 0,.int .i64 0] ((([] : List u5) ++ a).map I1) (.slF (ce7)) (D8 b rfl) z7) ?_
 refine rn rfl<|d9<|c8<|f7 ?_
 obtain rfl:=si H
 exact rt hE [(0,1)]
def I8.f (a : List u5) (b : Int) (c : Int) (d : Int) : Y28:=(K1.f a).bind fun e=>some (e,b,c,d)
theorem I8.ok (H : I8.f a b c d = some r) : j7 Tryz.prog 127 [] [.agg [.sl .o 4 (a.map I1),.lit (.int .i64 b),.lit (.int .i64 c),.lit (.int .i64 d)]] [(0,.row 46 4 (r.1.map I1))] (.agg [.row 0,.lit (.int .i64 r.2.1),.lit (.int .i64 r.2.2.1),.lit (.int .i64 r.2.2.2)]):=by
 refine u3 8 Tryz.func127 fun E hE=>?_
 rw [I8.f] at H
 refine d8<|c9<|k1 (K2 0)<|k1 (al 1)<|d9<|c8<|d8<|c9 ?_
 refine rn rfl ?_
 obtain ⟨g,e,H⟩:=f6 H
 refine kC (cl (K1.ok e) [2]) ?_
 refine rn rfl<|d9<|c8<|d8<|c9<|rn rfl<|d9<|c8<|f7 ?_
 obtain rfl:=si H
 exact rt hE [(0,2)] (hr:=(D5 4 .nil))
def F3.f (a : Int) (b : Int) (c : List u5) (d : Int) (e : Int) : Y23:=(K1.f c).bind fun g=>some (a,b,g,d,e)
theorem F3.ok (H : F3.f a b c d e = some r) : j7 Tryz.prog 128 [] [.agg [.lit (.int .i64 a),.lit (.int .i64 b),.sl .o 4 (c.map I1),.lit (.int .i64 d),.lit (.int .i64 e)]] [(0,.row 46 4 (r.2.2.1.map I1))] (.agg [.lit (.int .i64 r.1),.lit (.int .i64 r.2.1),.row 0,.lit (.int .i64 r.2.2.2.1),.lit (.int .i64 r.2.2.2.2)]):=by
 refine u3 8 Tryz.func128 fun E hE=>?_
 rw [F3.f] at H
 refine d8<|c9<|k1 (K2 0)<|k1 (al 1)<|d9<|c8<|d8<|c9 ?_
 refine rn rfl ?_
 obtain ⟨h,g,H⟩:=f6 H
 refine kC (cl (K1.ok g) [2]) ?_
 refine rn rfl<|d9<|c8<|d8<|c9<|rn rfl<|d9<|c8<|f7 ?_
 obtain rfl:=si H
 exact rt hE [(0,2)] (hr:=(D5 5 .nil))
mutual
def t7.l0 : Nat→Y40→(List H7)→(List D3)→(List D1)→(List Int)→(List A2)→Int→(List Int)→(List C7)→Int→(List Int)→(List E9)→((List D1)×(List Int)×(List A2)×Int×(List Int))→((List Int))→Y40→Int→Y3
 | 0,_,_,_,_,_,_,_,_,_,_,_,_,_,_,_,_=>none
 | w + 1,n,d,a,p,q,r,s,t,g,h,u,i,b,j,e,v=>if v < (n.length : Int) then if 0≤v then (D0.f w (M0 ([] : List (List f9)) n v)).bind fun y=>(if e.length + ([y] : List (List (List f9))).length < 5864062014805 then t7.l0 w n d a p q r s t g h u i b j (e ++ ([y] : List (List (List f9)))) (wrap64 (v + 1)) else none) else none else t7.l1 w n d a p q r s t g h u i b j e ([]) 0
def t7.l1 : Nat→Y40→(List H7)→(List D3)→(List D1)→(List Int)→(List A2)→Int→(List Int)→(List C7)→Int→(List Int)→(List E9)→((List D1)×(List Int)×(List A2)×Int×(List Int))→((List Int))→Y40→(List H7)→Int→Y3
 | 0,_,_,_,_,_,_,_,_,_,_,_,_,_,_,_,_,_=>none
 | z + 1,n,d,a,p,q,r,s,t,g,h,u,i,b,j,e,o,m=>if m < (d.length : Int) then if 0≤m then (I8.f ((V2 d m).f0) ((V2 d m).f1) ((V2 d m).f2) ((V2 d m).f3)).bind fun k=>(if o.length + ([(⟨k.1,k.2.1,k.2.2.1,k.2.2.2⟩ : H7)] : List H7).length < 2932031007402 then t7.l1 z n d a p q r s t g h u i b j e (o ++ ([(⟨k.1,k.2.1,k.2.2.1,k.2.2.2⟩ : H7)] : List H7)) (wrap64 (m + 1)) else none) else none else t7.l2 z a g h i b j e o ([]) 0
def t7.l2 : Nat→(List D3)→(List C7)→Int→(List E9)→((List D1)×(List Int)×(List A2)×Int×(List Int))→((List Int))→Y40→(List H7)→(List D3)→Int→Y3
 | 0,_,_,_,_,_,_,_,_,_,_=>none
 | B + 1,a,g,h,i,b,j,e,o,x,l=>if l < (a.length : Int) then if 0≤l then (F3.f ((I0 a l).f0) ((I0 a l).f1) ((I0 a l).f2) ((I0 a l).f3) ((I0 a l).f4)).bind fun c=>(if x.length + ([(⟨c.1,c.2.1,c.2.2.1,c.2.2.2.1,c.2.2.2.2⟩ : D3)] : List D3).length < 2513169434916 then t7.l2 B a g h i b j e o (x ++ ([(⟨c.1,c.2.1,c.2.2.1,c.2.2.2.1,c.2.2.2.2⟩ : D3)] : List D3)) (wrap64 (l + 1)) else none) else none else some (e,o,x,b.1,b.2.1,b.2.2.1,b.2.2.2.1,b.2.2.2.2,([] : List C7) ++ g,h,j,([] : List E9) ++ i)
end
def t7.f (k : Nat) (j : Y42) (l : List H7) (m : List D3) (a : List D1) (b : List Int) (c : List A2) (d : Int) (e : List Int) (g : List C7) (n : Int) (h : List Int) (i : List E9) : Y3:=(I5.f a b c d e).bind fun o=>(if ([] : List C7).length + g.length < 4398046511104 then ((I7.f h).bind fun p=>(if ([] : List E9).length + i.length < 4398046511104 then t7.l0 k j l m a b c d e g n h i o p ([]) 0 else none)) else none)
theorem t7.ok (H : t7.f k j l i o p q s t e c u g = some r) : j7 Tryz.prog 39 [] [.agg [.sl .o 1 (j.map (eL 1 (eL 4 (r8)))),.sl .o 4 (l.map M5),.sl .o 5 (i.map L2),.sl .o 6 (o.map I2),.sl .o 1 (p.map (eI .i64)),.sl .o 6 (q.map C9),.lit (.int .i64 s),.sl .o 1 (t.map (eI .i64)),.sl .o 3 (e.map F9),.lit (.int .i64 c),.sl .o 1 (u.map (eI .i64)),.sl .o 4 (g.map M6)]] [(0,.row 102 1 (r.1.map (eL 1 (eL 4 (r8))))),(1,.row 50 4 (r.2.1.map M5)),(2,.row 48 5 (r.2.2.1.map L2)),(3,.row 96 6 (r.2.2.2.1.map I2)),(4,.row 3 1 (r.2.2.2.2.1.map (eI .i64))),(5,.row 116 6 (r.2.2.2.2.2.1.map C9)),(6,.row 3 1 (r.2.2.2.2.2.2.2.1.map (eI .i64))),(7,.row 108 3 (r.2.2.2.2.2.2.2.2.1.map F9)),(8,.row 3 1 (r.2.2.2.2.2.2.2.2.2.2.1.map (eI .i64))),(9,.row 42 4 (r.2.2.2.2.2.2.2.2.2.2.2.map M6))] (.agg [.row 0,.row 1,.row 2,.row 3,.row 4,.row 5,.lit (.int .i64 r.2.2.2.2.2.2.1),.row 6,.row 7,.lit (.int .i64 r.2.2.2.2.2.2.2.2.2.1),.row 8,.row 9]):=by
 refine u3 73 Tryz.func39 fun E hE=>?_
 rw [t7.f] at H
 refine d8<|c9<|k1 (K2 0)<|k1 (al 1)<|d9<|c8<|d8<|c9 ?_
 refine rn rfl ?_
 obtain ⟨a,G,H⟩:=f6 H
 refine kC (cl (I5.ok G) [2,3,4,5])<|k1 (u7 6 108 3 [.bool false,.string .empty,.bool false] (([] : List C7).map F9)) ?_
 refine rn rfl ?_
 obtain ⟨I,H⟩:=i8 H
 refine k3 (D7 7 108 3 32 [.bool false,.string .empty,.bool false] ((([] : List C7) ++ e).map F9) (.slF (bZ5)) (D8 I rfl) z7) ?_
 refine rn rfl ?_
 obtain ⟨n,J,H⟩:=f6 H
 refine kC (cl (I7.ok J) [8])<|k1 (u7 9 42 4 [.int .i64 0,.int .i64 0,.int .i64 0,.bool false] (([] : List E9).map M6)) ?_
 refine rn rfl ?_
 obtain ⟨K,H⟩:=i8 H
 refine k3 (D7 10 42 4 32 [.int .i64 0,.int .i64 0,.int .i64 0,.bool false] ((([] : List E9) ++ g).map M6) (.slF (cg6)) (D8 K rfl) z7) ?_
 refine rn rfl<|k1 (al 11) ?_
 refine rn rfl<|ed<|c8<|d8<|d8<|c9<|rn rfl<|k0 (G3 v7) ?_
 refine rn rfl<|d9<|c8<|j4 ?_
 refine C4 11 0 14 102 1 [.row 14,.lit (.slice none 0 0),.lit (.slice none 0 0),.row 2,.row 3,.row 4,.lit (.int .i64 a.2.2.2.1),.row 5,.row 7,.lit (.int .i64 c),.row 8,.row 10] ?_
 refine V7 (fun k=>t7.l0 k j l i o p q s t e c u g a n) (fun m C=>⟨[(1,.box 0 0),(2,.box 1 0),(3,.box 11 0),(28,.sl .o 1 (j.map (eL 1 (eL 4 (r8))))),(29,.lit (.int .i64 (j.length : Int))),(30,.lit (.int .i64 C))],[(0,.box 37 [.sl .o 1 (j.map (eL 1 (eL 4 (r8)))),.sl .o 4 (l.map M5),.sl .o 5 (i.map L2),.sl .o 6 (o.map I2),.sl .o 1 (p.map (eI .i64)),.sl .o 6 (q.map C9),.lit (.int .i64 s),.sl .o 1 (t.map (eI .i64)),.sl .o 3 (e.map F9),.lit (.int .i64 c),.sl .o 1 (u.map (eI .i64)),.sl .o 4 (g.map M6)]),(1,.box 37 [.lit (.slice none 0 0),.lit (.slice none 0 0),.lit (.slice none 0 0),.lit (.slice none 0 0),.lit (.slice none 0 0),.lit (.slice none 0 0),.lit (.int .i64 0),.lit (.slice none 0 0),.lit (.slice none 0 0),.lit (.int .i64 0),.lit (.slice none 0 0),.lit (.slice none 0 0)]),(2,.row 96 6 (a.1.map I2)),(3,.row 3 1 (a.2.1.map (eI .i64))),(4,.row 116 6 (a.2.2.1.map C9)),(5,.row 3 1 (a.2.2.2.2.map (eI .i64))),(7,.row 108 3 ((([] : List C7) ++ e).map F9)),(8,.row 3 1 (n.map (eI .i64))),(10,.row 42 4 ((([] : List E9) ++ g).map M6)),(11,.box 37 [.row 14,.lit (.slice none 0 0),.lit (.slice none 0 0),.row 2,.row 3,.row 4,.lit (.int .i64 a.2.2.2.1),.row 5,.row 7,.lit (.int .i64 c),.row 8,.row 10]),(14,.row 102 1 (m.map (eL 1 (eL 4 (r8)))))]⟩) H (fun _ h=>aw hE [] h) (fun _ _ _=>t7.l0.eq_2 ..) fun Y m C Z H a0 L=>?_
 refine d8<|c9<|rn rfl<|d9<|c8<|d8 ?_
 obtain ⟨w,H⟩|⟨w,H⟩:=oi H
 ·refine iT (decide_eq_true w)<|i9<|c8<|d8<|j4<|d8<|c9 ?_
  obtain ⟨M,H⟩:=i8 H
  refine k0 (iS M w) ?_
  refine rn rfl<|d9<|c8<|c9<|rn rfl ?_
  obtain ⟨z,N,H⟩:=f6 H
  refine kC (cl ((D0.ok N).frz (.sl .n 1 (z.map (eL 4 (r8))))) [])<|k1 (u7 15 102 1 [.slice none 0 0] (([z] : List (List (List f9))).map (eL 1 (eL 4 (r8))))) ?_
  obtain ⟨O,H⟩:=i8 H
  refine k3 (D7 16 102 1 24 [.slice none 0 0] ((m ++ ([z] : List (List (List f9)))).map (eL 1 (eL 4 (r8)))) (.row rfl) (D8 O rfl) z7) ?_
  refine rn rfl<|ed<|j6<|c8<|c9<|rn rfl<|d9<|l6 ?_
  exact aw hE [(14,16)] (L (Nat.le_refl _) H)
 refine iF (decide_eq_false w)<|m6<|j5<|j5<|n7 rfl<|c8<|d8<|d8<|c9<|rn rfl<|k0 (G3 v7) ?_
 refine rn rfl<|d9<|c8<|j4 ?_
 refine C4 11 1 20 50 4 [.row 14,.row 20,.lit (.slice none 0 0),.row 2,.row 3,.row 4,.lit (.int .i64 a.2.2.2.1),.row 5,.row 7,.lit (.int .i64 c),.row 8,.row 10] ?_
 refine V7 (fun k=>t7.l1 k j l i o p q s t e c u g a n m) (fun v D=>⟨[(1,.box 0 0),(2,.box 1 0),(3,.box 11 0),(43,.sl .o 4 (l.map M5)),(44,.lit (.int .i64 (l.length : Int))),(45,.lit (.int .i64 D))],[(0,.box 37 [.sl .o 1 (j.map (eL 1 (eL 4 (r8)))),.sl .o 4 (l.map M5),.sl .o 5 (i.map L2),.sl .o 6 (o.map I2),.sl .o 1 (p.map (eI .i64)),.sl .o 6 (q.map C9),.lit (.int .i64 s),.sl .o 1 (t.map (eI .i64)),.sl .o 3 (e.map F9),.lit (.int .i64 c),.sl .o 1 (u.map (eI .i64)),.sl .o 4 (g.map M6)]),(1,.box 37 [.lit (.slice none 0 0),.lit (.slice none 0 0),.lit (.slice none 0 0),.lit (.slice none 0 0),.lit (.slice none 0 0),.lit (.slice none 0 0),.lit (.int .i64 0),.lit (.slice none 0 0),.lit (.slice none 0 0),.lit (.int .i64 0),.lit (.slice none 0 0),.lit (.slice none 0 0)]),(2,.row 96 6 (a.1.map I2)),(3,.row 3 1 (a.2.1.map (eI .i64))),(4,.row 116 6 (a.2.2.1.map C9)),(5,.row 3 1 (a.2.2.2.2.map (eI .i64))),(7,.row 108 3 ((([] : List C7) ++ e).map F9)),(8,.row 3 1 (n.map (eI .i64))),(10,.row 42 4 ((([] : List E9) ++ g).map M6)),(11,.box 37 [.row 14,.row 20,.lit (.slice none 0 0),.row 2,.row 3,.row 4,.lit (.int .i64 a.2.2.2.1),.row 5,.row 7,.lit (.int .i64 c),.row 8,.row 10]),(14,.row 102 1 (m.map (eL 1 (eL 4 (r8))))),(20,.row 50 4 (v.map M5))]⟩) H (fun _ h=>aw hE [] h) (fun _ _ _=>t7.l1.eq_2 ..) fun a1 v D a2 H a3 P=>?_
 refine d8<|c9<|rn rfl<|d9<|c8<|d8 ?_
 obtain ⟨x,H⟩|⟨x,H⟩:=oi H
 ·refine iT (decide_eq_true x)<|i9<|c8<|d8<|j4<|d8<|c9 ?_
  obtain ⟨Q,H⟩:=i8 H
  refine k0 (iS Q x) ?_
  refine rn rfl<|k1 (al 21) ?_
  refine rn rfl<|d9<|c8<|c9<|rn rfl ?_
  obtain ⟨d,R,H⟩:=f6 H
  refine kC (cl ((I8.ok R).frz (.agg [.sl .n 4 (d.1.map I1),.lit (.int .i64 d.2.1),.lit (.int .i64 d.2.2.1),.lit (.int .i64 d.2.2.2)])) [])<|k1 (u7 22 50 4 [.slice none 0 0,.int .i64 0,.int .i64 0,.int .i64 0] (([(⟨d.1,d.2.1,d.2.2.1,d.2.2.2⟩ : H7)] : List H7).map M5)) ?_
  obtain ⟨T,H⟩:=i8 H
  refine k3 (D7 23 50 4 48 [.slice none 0 0,.int .i64 0,.int .i64 0,.int .i64 0] ((v ++ ([(⟨d.1,d.2.1,d.2.2.1,d.2.2.2⟩ : H7)] : List H7)).map M5) (.row rfl) (D8 T rfl) z7) ?_
  refine rn rfl<|ed<|j6<|c8<|c9<|rn rfl<|d9<|l6 ?_
  exact aw hE [(20,23)] (P (Nat.le_refl _) H)
 refine iF (decide_eq_false x)<|m6<|j5<|j5<|n7 rfl<|c8<|d8<|d8<|c9<|rn rfl<|k0 (G3 v7) ?_
 refine rn rfl<|d9<|c8<|j4 ?_
 refine C4 11 2 27 48 5 [.row 14,.row 20,.row 27,.row 2,.row 3,.row 4,.lit (.int .i64 a.2.2.2.1),.row 5,.row 7,.lit (.int .i64 c),.row 8,.row 10] ?_
 refine V7 (fun k=>t7.l2 k i e c g a n m v) (fun B F=>⟨[(2,.box 1 0),(3,.box 11 0),(58,.sl .o 5 (i.map L2)),(59,.lit (.int .i64 (i.length : Int))),(60,.lit (.int .i64 F))],[(1,.box 37 [.lit (.slice none 0 0),.lit (.slice none 0 0),.lit (.slice none 0 0),.lit (.slice none 0 0),.lit (.slice none 0 0),.lit (.slice none 0 0),.lit (.int .i64 0),.lit (.slice none 0 0),.lit (.slice none 0 0),.lit (.int .i64 0),.lit (.slice none 0 0),.lit (.slice none 0 0)]),(2,.row 96 6 (a.1.map I2)),(3,.row 3 1 (a.2.1.map (eI .i64))),(4,.row 116 6 (a.2.2.1.map C9)),(5,.row 3 1 (a.2.2.2.2.map (eI .i64))),(7,.row 108 3 ((([] : List C7) ++ e).map F9)),(8,.row 3 1 (n.map (eI .i64))),(10,.row 42 4 ((([] : List E9) ++ g).map M6)),(11,.box 37 [.row 14,.row 20,.row 27,.row 2,.row 3,.row 4,.lit (.int .i64 a.2.2.2.1),.row 5,.row 7,.lit (.int .i64 c),.row 8,.row 10]),(14,.row 102 1 (m.map (eL 1 (eL 4 (r8))))),(20,.row 50 4 (v.map M5)),(27,.row 48 5 (B.map L2))]⟩) H (fun _ h=>aw hE [] h) (fun _ _ _=>t7.l2.eq_2 ..) fun a4 B F a5 H a6 U=>?_
 refine d8<|c9<|rn rfl<|d9<|c8<|d8 ?_
 obtain ⟨y,H⟩|⟨y,H⟩:=oi H
 ·refine iT (decide_eq_true y)<|i9<|c8<|d8<|j4<|d8<|c9 ?_
  obtain ⟨V,H⟩:=i8 H
  refine k0 (iS V y) ?_
  refine rn rfl<|k1 (al 28) ?_
  refine rn rfl<|d9<|c8<|c9<|rn rfl ?_
  obtain ⟨b,W,H⟩:=f6 H
  refine kC (cl ((F3.ok W).frz (.agg [.lit (.int .i64 b.1),.lit (.int .i64 b.2.1),.sl .n 4 (b.2.2.1.map I1),.lit (.int .i64 b.2.2.2.1),.lit (.int .i64 b.2.2.2.2)])) [])<|k1 (u7 29 48 5 [.int .i64 0,.int .i64 0,.slice none 0 0,.int .i64 0,.int .i64 0] (([(⟨b.1,b.2.1,b.2.2.1,b.2.2.2.1,b.2.2.2.2⟩ : D3)] : List D3).map L2)) ?_
  obtain ⟨X,H⟩:=i8 H
  refine k3 (D7 30 48 5 56 [.int .i64 0,.int .i64 0,.slice none 0 0,.int .i64 0,.int .i64 0] ((B ++ ([(⟨b.1,b.2.1,b.2.2.1,b.2.2.2.1,b.2.2.2.2⟩ : D3)] : List D3)).map L2) (.row rfl) (D8 X rfl) z7) ?_
  refine rn rfl<|ed<|j6<|c8<|c9<|rn rfl<|d9<|l6 ?_
  exact aw hE [(27,30)] (U (Nat.le_refl _) H)
 refine iF (decide_eq_false y)<|m6<|j5<|j5<|n7 rfl<|c8<|d8<|c9<|rn rfl<|d9<|c8<|f7 ?_
 obtain rfl:=si H
 exact rt hE [(0,14),(1,20),(2,27),(3,2),(4,3),(5,4),(6,5),(9,10)] (hr:=(D5 12 .nil))
def H9.f (a : Y42) (b : List H7) (c : List D3) (d : List D1) (e : List Int) (g : List A2) (h : Int) (i : List Int) (j : List C7) (k : Int) (l : List Int) (m : List E9) : P0:=if (a.length : Int) = 3 then (if (b.length : Int) = 3 then some ((c.length : Int) == 3) else some false) else some false
theorem H9.ok (H : H9.f c d e g h i j k l m n o = some r) : j7 Tryz.prog 41 [] [.agg [.sl .o 1 (c.map (eL 1 (eL 4 (r8)))),.sl .o 4 (d.map M5),.sl .o 5 (e.map L2),.sl .o 6 (g.map I2),.sl .o 1 (h.map (eI .i64)),.sl .o 6 (i.map C9),.lit (.int .i64 j),.sl .o 1 (k.map (eI .i64)),.sl .o 3 (l.map F9),.lit (.int .i64 m),.sl .o 1 (n.map (eI .i64)),.sl .o 4 (o.map M6)]] [] (.lit (.bool r)):=by
 refine u3 19 Tryz.func41 fun E hE=>?_
 rw [H9.f] at H
 refine d8<|c9<|k1 (K2 0) ?_
 refine rn rfl<|d9<|c8<|d8<|c9<|rn rfl<|k0 (G3 v7) ?_
 refine rn rfl ?_
 obtain ⟨a,H⟩|⟨a,H⟩:=oi H
 ·refine kv (g1 (eT a)) (y8 1 1)<|kv (g1 (eT a)) B5<|kv (g1 (eT a)) (G3 v7)<|kv (g1 (eT a)) eql ?_
  refine k0 (o8 (eT a)) ?_
  refine rn rfl ?_
  obtain ⟨b,H⟩|⟨b,H⟩:=oi H
  ·refine kv (g1 (eT b)) (y8 2 2)<|kv (g1 (eT b)) B5<|kv (g1 (eT b)) (G3 v7)<|kv (g1 (eT b)) eql ?_
   refine k0 (o8 (eT b)) ?_
   refine rn rfl<|d9<|c8<|f7 ?_
   obtain rfl:=si H
   exact rt hE []
  iterate 4 refine kx (hT (eF b)) ?_
  refine k0 (n8 (eF b)) ?_
  refine rn rfl<|d9<|c8<|f7 ?_
  obtain rfl:=si H
  exact rt hE []
 iterate 4 refine kx (hT (eF a)) ?_
 refine k0 (n8 (eF a)) ?_
 refine rn rfl ?_
 iterate 4 refine kx (hT rfl) ?_
 refine k0 (n8 rfl) ?_
 refine rn rfl<|d9<|c8<|f7 ?_
 obtain rfl:=si H
 exact rt hE []
def y7.f (a : Int) (c : Int) (d : Int) (e : Int) : P0:=(j8.f a 3 6).bind fun b=>some b
theorem y7.ok (H : y7.f a b c d = some r) : j7 Tryz.prog 275 [] [.agg [.lit (.int .i64 a),.lit (.int .i64 b),.lit (.int .i64 c),.lit (.int .i64 d)]] [] (.lit (.bool r)):=by
 refine u3 6 Tryz.func275 fun E hE=>?_
 rw [y7.f] at H
 refine d8<|c9<|k1 (K2 0) ?_
 refine rn rfl<|d9<|c8<|d8<|c9<|rn rfl ?_
 obtain ⟨g,e,H⟩:=f6 H
 refine kC (cl (j8.ok e) []) ?_
 refine rn rfl<|d9<|c8<|f7 ?_
 obtain rfl:=si H
 exact rt hE []
def aa0.f (b : Int) (a : Int) (c : Int) (d : Int) : P0:=(y7.f b a c d).bind fun e=>if e = true then ((x9.f a).bind fun g=>(if g = true then ((j8.f c 0 15).bind fun h=>(if h = true then ((j8.f d 0 15).bind fun i=>some i) else some false)) else some false)) else if c = 0 then if d = 0 then if b = 1 then ((j8.f a 0 7).bind fun j=>some j) else if b = 7 then ((j8.f a 0 399).bind fun k=>some k) else if b = 2 then (x9.f a).bind fun l=>some l else if b = 8 then ((x9.f a).bind fun m=>some m) else some false else some false else some false
theorem aa0.ok (H : aa0.f k l m n = some r) : j7 Tryz.prog 312 [] [.agg [.lit (.int .i64 k),.lit (.int .i64 l),.lit (.int .i64 m),.lit (.int .i64 n)]] [] (.lit (.bool r)):=by
 refine u3 44 Tryz.func312 fun E hE=>?_
 rw [aa0.f] at H
 refine d8<|c9<|k1 (K2 0) ?_
 refine rn rfl<|d9<|c8<|d8<|d8<|c9<|rn rfl ?_
 obtain ⟨x,o,H⟩:=f6 H
 refine kC (cl (y7.ok o) [])<|d9<|c8 ?_
 obtain ⟨e,H⟩|⟨e,H⟩:=oi H
 ·refine iT e<|d8<|c9<|rn rfl ?_
  obtain ⟨y,p,H⟩:=f6 H
  refine kC (cl (x9.ok p) []) ?_
  refine rn rfl ?_
  obtain ⟨a,H⟩|⟨a,H⟩:=oi H
  ·refine kv (g1 a) (y8 2 2)<|kv (g1 a) B5 ?_
   obtain ⟨z,q,H⟩:=f6 H
   refine N5 (g1 a) (cl (j8.ok q) []) ?_
   refine k0 (o8 a) ?_
   refine rn rfl ?_
   obtain ⟨b,H⟩|⟨b,H⟩:=oi H
   ·refine kv (g1 b) (y8 3 3)<|kv (g1 b) B5 ?_
    obtain ⟨B,s,H⟩:=f6 H
    refine N5 (g1 b) (cl (j8.ok s) []) ?_
    refine k0 (o8 b) ?_
    refine rn rfl<|d9<|c8<|f7<|f8 ?_
    obtain rfl:=si H
    exact rt hE []
   iterate 3 refine kx (hT (bF b)) ?_
   refine k0 (n8 (bF b)) ?_
   refine rn rfl<|d9<|c8<|f7<|f8 ?_
   obtain rfl:=si H
   exact rt hE []
  iterate 3 refine kx (hT (bF a)) ?_
  refine k0 (n8 (bF a)) ?_
  refine rn rfl ?_
  iterate 3 refine kx (hT rfl) ?_
  refine k0 (n8 rfl) ?_
  refine rn rfl<|d9<|c8<|f7<|f8 ?_
  obtain rfl:=si H
  exact rt hE []
 refine iF (bF e)<|i9<|c8<|d8<|d8<|c9<|rn rfl ?_
 obtain ⟨c,H⟩|⟨c,H⟩:=oi H
 ·refine kv (g1 (eM c)) (y8 3 3)<|kv (g1 (eM c)) B5<|kv (g1 (eM c)) neq ?_
  refine k0 (n8 (eM c))<|d9<|c8 ?_
  obtain ⟨g,H⟩|⟨g,H⟩:=oi H
  ·refine iF (eM g)<|i9<|c8<|d8<|d8<|c9<|rn rfl<|d9<|c8<|j4<|d8<|c9<|rn rfl<|d9<|c8 ?_
   obtain ⟨h,H⟩|⟨h,H⟩:=oi H
   ·refine iT (eT h)<|d8<|c9<|rn rfl ?_
    obtain ⟨C,t,H⟩:=f6 H
    refine kC (cl (j8.ok t) []) ?_
    refine rn rfl<|d9<|c8<|f7<|l7<|f8 ?_
    obtain rfl:=si H
    exact rt hE []
   refine iF (eF h)<|d8<|c9<|rn rfl<|d9<|c8 ?_
   obtain ⟨i,H⟩|⟨i,H⟩:=oi H
   ·refine iT (eT i)<|d8<|c9<|rn rfl ?_
    obtain ⟨D,u,H⟩:=f6 H
    refine kC (cl (j8.ok u) []) ?_
    refine rn rfl<|d9<|c8<|f7<|l7<|f8 ?_
    obtain rfl:=si H
    exact rt hE []
   refine iF (eF i)<|d8<|d8<|c9<|rn rfl<|d9<|c8 ?_
   obtain ⟨d,H⟩|⟨d,H⟩:=oi H
   ·refine iT (eT d)<|i9<|c8<|iT (eT d)<|d8<|c9<|rn rfl ?_
    obtain ⟨F,v,H⟩:=f6 H
    refine kC (cl (x9.ok v) []) ?_
    refine rn rfl<|d9<|c8<|f7<|l7<|f8 ?_
    obtain rfl:=si H
    exact rt hE []
   refine iF (eF d)<|c9<|rn rfl<|d9<|c8 ?_
   obtain ⟨j,H⟩|⟨j,H⟩:=oi H
   ·refine iT (eT j)<|d8<|c9<|rn rfl ?_
    obtain ⟨G,w,H⟩:=f6 H
    refine kC (cl (x9.ok w) []) ?_
    refine rn rfl<|d9<|c8<|f7<|l7<|f8 ?_
    obtain rfl:=si H
    exact rt hE []
   refine iF (eF j)<|i9<|j6<|c8<|d8<|c9<|rn rfl<|d9<|c8<|f7 ?_
   obtain rfl:=si H
   exact rt hE []
  refine iT (eN g)<|d8<|c9<|rn rfl<|d9<|c8<|f7<|f8 ?_
  obtain rfl:=si H
  exact rt hE []
 iterate 3 refine kx (hF (eN c)) ?_
 refine k0 (o8 (eN c))<|d9<|c8<|iT rfl<|d8<|c9 ?_
 refine rn rfl<|d9<|c8<|f7<|f8 ?_
 obtain rfl:=si H
 exact rt hE []
def X9.f (b : Int) (c : Int) (d : Int) (e : Int) (a : Int) : Y55:=(y7.f b c d e).bind fun g=>if g = true then some (wrap64 ((wrap64 (a + 1)) + (max d e))) else if b = 7 then some (wrap64 ((wrap64 (a + 1)) + c)) else some a
theorem X9.ok (H : X9.f c d e g h = some r) : j7 Tryz.prog 313 [] [.agg [.lit (.int .i64 c),.lit (.int .i64 d),.lit (.int .i64 e),.lit (.int .i64 g)],.lit (.int .i64 h)] [] (.lit (.int .i64 r)):=by
 refine u3 26 Tryz.func313 fun E hE=>?_
 rw [X9.f] at H
 refine d8<|c9<|k1 (K2 0) ?_
 refine rn rfl<|d9<|c8<|d8<|j4<|d8<|c9<|rn rfl ?_
 obtain ⟨j,i,H⟩:=f6 H
 refine kC (cl (y7.ok i) []) ?_
 refine rn rfl<|d9<|c8 ?_
 obtain ⟨a,H⟩|⟨a,H⟩:=oi H
 ·refine iT a<|d8<|c9<|rn rfl<|k0 max_ ?_
  refine rn rfl<|d9<|c8<|f7<|l7<|f8 ?_
  obtain rfl:=si H
  exact rt hE []
 refine iF (bF a)<|d8<|c9<|rn rfl<|d9<|c8 ?_
 obtain ⟨b,H⟩|⟨b,H⟩:=oi H
 ·refine iT (eT b)<|d8<|c9<|rn rfl<|d9<|c8<|f7<|l7<|f8 ?_
  obtain rfl:=si H
  exact rt hE []
 refine iF (eF b)<|i9<|j6<|c8<|d8<|c9<|rn rfl<|d9<|c8<|f7 ?_
 obtain rfl:=si H
 exact rt hE []
def u9.l0 : Nat→(List f9)→Int→P0
 | 0,_,_=>none
 | c + 1,b,a=>if a < (b.length : Int) then if 0≤a then (aa0.f ((m8 b a).f0) ((m8 b a).f1) ((m8 b a).f2) ((m8 b a).f3)).bind fun d=>(if d = true then ((X9.f ((m8 b a).f0) ((m8 b a).f1) ((m8 b a).f2) ((m8 b a).f3) a).bind fun e=>if e ≥ (b.length : Int) then some false else u9.l0 c b (wrap64 (a + 1))) else some false) else none else some true
def u9.f (k : Nat) (a : List f9) : P0:=(j8.f (a.length : Int) 1 400).bind fun b=>(if b = true then (if 0≤(wrap64 ((a.length : Int) - 1)) then (if (wrap64 ((a.length : Int) - 1)) < (a.length : Int) then if ((m8 a (wrap64 ((a.length : Int) - 1))).f0) = 8 then u9.l0 k a 0 else some false else none) else none) else some false)
theorem u9.ok (H : u9.f k c = some r) : j7 Tryz.prog 251 [] [.sl .o 4 (c.map r8)] [] (.lit (.bool r)):=by
 refine u3 38 Tryz.func251 fun E hE=>?_
 rw [u9.f] at H
 refine d8<|c9<|rn rfl<|d9<|c8<|d8<|c9<|rn rfl<|k0 (G3 v7) ?_
 refine rn rfl<|d9<|c8<|d8<|d8<|c9<|rn rfl ?_
 obtain ⟨s,j,H⟩:=f6 H
 refine kC (cl (j8.ok j) []) ?_
 refine rn rfl ?_
 obtain ⟨a,H⟩|⟨a,H⟩:=oi H
 ·refine kv (g1 (nF a)) mv<|kv (g1 (nF a)) mv<|kv (g1 (nF a)) aQ7 ?_
  obtain ⟨l,H⟩:=i8 H
  obtain ⟨m,H⟩:=i8 H
  refine kv (g1 (nF a)) (iS l m)<|kv (g1 (nF a)) (faR 0 0)<|kv (g1 (nF a)) pL<|kv (g1 (nF a)) neq ?_
  refine k0 (n8 (nF a))<|d9<|c8 ?_
  obtain ⟨e,H⟩|⟨e,H⟩:=oi H
  ·refine iF (eM e)<|i9<|c8<|d8<|d8<|c9<|rn rfl<|k0 (G3 v7) ?_
   refine rn rfl<|d9<|c8<|j4 ?_
   refine lp1 (fun k=>u9.l0 k c) (fun i=>⟨[(3,.lit (.int .i64 (c.length : Int))),(20,.sl .o 4 (c.map r8)),(21,.lit (.int .i64 (c.length : Int))),(22,.lit (.int .i64 i))],[]⟩) H (fun _ h=>aw hE [] h) (fun _ _=>u9.l0.eq_2 ..) fun t i u H v n=>?_
   refine d8<|c9<|rn rfl<|d9<|c8<|d8 ?_
   obtain ⟨d,H⟩|⟨d,H⟩:=oi H
   ·refine iT (decide_eq_true d)<|i9<|c8<|d8<|j4<|d8<|c9<|rn rfl ?_
    obtain ⟨o,H⟩:=i8 H
    refine k0 (iS o d) ?_
    refine rn rfl<|k1 (al 0) ?_
    refine rn rfl<|d9<|c8<|d8<|c9<|rn rfl ?_
    obtain ⟨w,p,H⟩:=f6 H
    refine kC (cl (aa0.ok p) []) ?_
    refine rn rfl ?_
    obtain ⟨b,H⟩|⟨b,H⟩:=oi H
    ·refine kv (g1 (nF b)) (bA 4)<|kv (g1 (nF b)) mv ?_
     obtain ⟨x,q,H⟩:=f6 H
     refine N5 (g1 (nF b)) (cl (X9.ok q) [])<|kv (g1 (nF b)) mv<|kv (g1 (nF b)) geq ?_
     refine k0 (n8 (nF b))<|d9<|c8 ?_
     obtain ⟨g,H⟩|⟨g,H⟩:=oi H
     ·refine iT (decide_eq_true g)<|d8<|c9<|rn rfl<|d9<|c8<|f7<|l7<|f8<|f8<|l7<|f8 ?_
      obtain rfl:=si H
      exact rt hE []
     refine iF (decide_eq_false g)<|i9<|j6<|c8<|c9<|rn rfl<|d9<|l6 ?_
     exact aw hE [] (n (Nat.le_refl _) H)
    iterate 5 refine kx (hF (nT (bF b))) ?_
    refine k0 (o8 (nT (bF b)))<|d9<|c8<|iT rfl<|d8<|c9 ?_
    refine rn rfl<|d9<|c8<|f7<|l7<|f8<|f8<|l7<|f8 ?_
    obtain rfl:=si H
    exact rt hE []
   refine iF (decide_eq_false d)<|m6<|j5<|j5<|n7 rfl<|c8<|d8<|c9<|rn rfl<|d9<|c8<|f7 ?_
   obtain rfl:=si H
   exact rt hE []
  refine iT (eN e)<|d8<|c9<|rn rfl<|d9<|c8<|f7<|f8 ?_
  obtain rfl:=si H
  exact rt hE []
 iterate 7 refine kx (hF (nT (bF a))) ?_
 refine k0 (o8 (nT (bF a)))<|d9<|c8<|iT rfl<|d8<|c9 ?_
 refine rn rfl<|d9<|c8<|f7<|f8 ?_
 obtain rfl:=si H
 exact rt hE []
end Go.Proofs.YtahmbcgolnplgaaGreat.PFnNoHoles
