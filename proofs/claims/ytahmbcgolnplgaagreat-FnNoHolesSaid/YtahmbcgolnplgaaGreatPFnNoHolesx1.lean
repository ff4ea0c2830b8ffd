import Derived.Test.YtahmbcgolnplgaaGreatPFnNoHolesx0
set_option linter.unusedVariables false
set_option linter.unusedSimpArgs false
set_option autoImplicit true
set_option relaxedAutoImplicit true
set_option maxRecDepth 100000
set_option maxHeartbeats 4000000
namespace Go.Proofs.YtahmbcgolnplgaaGreat.PFnNoHoles
open Go Go.RowKit Go.Proofs.YtahmbcgolnplgaaGreatA
def ax3.f (a : List Int) : P0:=some (decide ((a.length : Int) > 1048576))
theorem ax3.ok (H : ax3.f a = some r) : j7 Tryz.prog 7 [] [.sl .o 1 (a.map (eI .u8))] [] (.lit (.bool r)):=by
 refine u3 6 Tryz.func7 fun E hE=>?_
 rw [ax3.f] at H
 refine d8<|c9<|rn rfl<|d9<|c8<|d8<|c9<|rn rfl<|k0 (G3 v7) ?_
 refine rn rfl<|d9<|c8<|f7 ?_
 obtain rfl:=si H
 exact rt hE []
def M8.l0 : Nat→(List Int)→Int→Int→Y33
 | 0,_,_,_=>none
 | d + 1,a,c,b=>if b < (a.length : Int) then if b < 4000 then if 0≤b then M8.l0 d a (bits .and .i64 (wrap64 ((wrap64 ((wrap64 (c * 131)) + (wrap64 (rd a b)))) + 7)) 1073741823) (wrap64 (b + 1)) else none else some (a,0,c) else some (a,0,c)
def M8.f (k : Nat) (a : List Int) : Y33:=M8.l0 k a (wrap64 (78801 + (a.length : Int))) 0
theorem M8.ok (H : M8.f k b = some r) : j7 Tryz.prog 50 [] [.sl .u 1 (b.map (eI .u8))] [(0,.box 173 [.sl .u 1 (r.1.map (eI .u8)),.lit (.int .i64 r.2.1),.lit (.int .i64 r.2.2)])] (.box 0 0):=by
 refine u3 32 Tryz.func50 fun E hE=>?_
 rw [M8.f] at H
 refine d8<|c9<|rn rfl<|d9<|c8<|d8<|c9<|rn rfl<|k0 (G3 v7) ?_
 refine rn rfl<|d9<|c8<|d8<|d8<|c9<|rn rfl<|d9<|c8<|j4 ?_
 refine V7 (fun k=>M8.l0 k b) (fun d e=>⟨[(0,.sl .u 1 (b.map (eI .u8))),(3,.lit (.int .i64 d)),(4,.lit (.int .i64 e))],[]⟩) H (fun _ h=>aw hE [] h) (fun _ _ _=>M8.l0.eq_2 ..) fun j d e l H m g=>?_
 refine d8<|d8<|c9<|rn rfl<|k0 (G3 v7) ?_
 refine rn rfl ?_
 obtain ⟨a,H⟩|⟨a,H⟩:=oi H
 ·refine kv (g1 (decide_eq_true a)) mv<|kv (g1 (decide_eq_true a)) lss ?_
  refine k0 (o8 (decide_eq_true a))<|d9<|c8 ?_
  obtain ⟨c,H⟩|⟨c,H⟩:=oi H
  ·refine iT (decide_eq_true c)<|i9<|c8<|d8<|j4<|c9<|rn rfl ?_
   obtain ⟨i,H⟩:=i8 H
   refine k0 (iS i a) ?_
   refine rn rfl<|d9<|j6<|c8<|c9<|rn rfl<|d9<|l6 ?_
   exact aw hE [] (g (Nat.le_refl _) H)
  refine iF (decide_eq_false c)<|m6<|j5<|j5<|n7 rfl<|c8<|d8<|c9<|rn rfl<|k1 (K2 0) ?_
  refine rn rfl<|d9<|c8<|f7 ?_
  obtain rfl:=si H
  exact rt hE []
 iterate 2 refine kx (hT (decide_eq_false a)) ?_
 refine k0 (n8 (decide_eq_false a))<|d9<|c8<|iF rfl<|m6<|j5<|j5<|n7 rfl<|c8<|d8<|c9 ?_
 refine rn rfl<|k1 (K2 1) ?_
 refine rn rfl<|d9<|c8<|f7 ?_
 obtain rfl:=si H
 exact rt hE [(0,1)]
def K6.f (c : List Int) (b : Int) (a : Int) : Y27:=if b < (c.length : Int) then (if 0≤b then some (bits .and .i64 (wrap64 ((bits .and .i64 (bits .xor .i64 ((wrap64 ((wrap64 (a * 6364136223846793005)) + 1442695040888963407)).fdiv (2 ^ 33)) ((wrap64 ((wrap64 (a * 6364136223846793005)) + 1442695040888963407)).fdiv (2 ^ 45))) 255) + (wrap64 (rd c b)))) 255,c,wrap64 (b + 1),wrap64 ((wrap64 (a * 6364136223846793005)) + 1442695040888963407)) else none) else some (bits .and .i64 (bits .xor .i64 ((wrap64 ((wrap64 (a * 6364136223846793005)) + 1442695040888963407)).fdiv (2 ^ 33)) ((wrap64 ((wrap64 (a * 6364136223846793005)) + 1442695040888963407)).fdiv (2 ^ 45))) 255,c,b,wrap64 ((wrap64 (a * 6364136223846793005)) + 1442695040888963407))
theorem K6.ok (H : K6.f b c d = some r) : j7 Tryz.prog 159 [(0,.box 173 [.sl .u 1 (b.map (eI .u8)),.lit (.int .i64 c),.lit (.int .i64 d)])] [.box 0 0] [(0,.box 173 [.sl .u 1 (r.2.1.map (eI .u8)),.lit (.int .i64 r.2.2.1),.lit (.int .i64 r.2.2.2)])] (.lit (.int .i64 r.1)):=by
 refine u3 58 Tryz.func159 fun E hE=>?_
 rw [K6.f] at H
 refine d8<|c9<|rn rfl<|d9<|c8<|d8<|c9<|rn rfl<|d9<|c8<|d8<|c9<|rn rfl<|k0 (shr (by decide : (0 : Int)≤33)) ?_
 refine rn rfl<|k0 (shr (by decide : (0 : Int)≤45)) ?_
 refine rn rfl<|ed<|c8<|d8<|d8<|c9<|rn rfl<|k0 (G3 v7) ?_
 refine rn rfl<|ed<|c8 ?_
 obtain ⟨a,H⟩|⟨a,H⟩:=oi H
 ·refine iT (decide_eq_true a)<|d8<|c9<|rn rfl ?_
  obtain ⟨e,H⟩:=i8 H
  refine k0 (iS e a) ?_
  refine rn rfl<|ed<|c8<|c9<|rn rfl<|d9<|c8<|d8<|c9<|rn rfl<|d9<|c8<|f7 ?_
  obtain rfl:=si H
  exact rt hE []
 refine iF (decide_eq_false a)<|i9<|c8<|d8<|c9<|rn rfl<|d9<|c8<|f7 ?_
 obtain rfl:=si H
 exact rt hE []
def n9.f (h : List Int) (i : Int) (j : Int) (a : Int) : Y27:=if a≤0 then some (0,h,i,j) else if a≤256 then ((K6.f h i j).bind fun b=>(if a≠0 then some (b.1.tmod a,b.2.1,b.2.2.1,b.2.2.2) else none)) else (K6.f h i j).bind fun c=>(K6.f c.2.1 c.2.2.1 c.2.2.2).bind fun d=>(K6.f d.2.1 d.2.2.1 d.2.2.2).bind fun e=>(K6.f e.2.1 e.2.2.1 e.2.2.2).bind fun g=>if a≠0 then some ((wrap64 ((wrap64 ((wrap64 ((wrap64 (c.1 * 16777216)) + (wrap64 (d.1 * 65536)))) + (wrap64 (e.1 * 256)))) + g.1)).tmod a,g.2.1,g.2.2.1,g.2.2.2) else none
theorem n9.ok (H : n9.f c d e g = some r) : j7 Tryz.prog 81 [(0,.box 173 [.sl .u 1 (c.map (eI .u8)),.lit (.int .i64 d),.lit (.int .i64 e)])] [.box 0 0,.lit (.int .i64 g)] [(0,.box 173 [.sl .u 1 (r.2.1.map (eI .u8)),.lit (.int .i64 r.2.2.1),.lit (.int .i64 r.2.2.2)])] (.lit (.int .i64 r.1)):=by
 refine u3 37 Tryz.func81 fun E hE=>?_
 rw [n9.f] at H
 refine d8<|c9<|rn rfl<|d9<|c8<|d8<|d8<|c9<|rn rfl<|d9<|c8 ?_
 obtain ⟨a,H⟩|⟨a,H⟩:=oi H
 ·refine iT (decide_eq_true a)<|d8<|c9<|rn rfl<|d9<|c8<|f7<|f8 ?_
  obtain rfl:=si H
  exact rt hE []
 refine iF (decide_eq_false a)<|i9<|c8<|d8<|d8<|c9<|rn rfl<|d9<|c8 ?_
 obtain ⟨b,H⟩|⟨b,H⟩:=oi H
 ·refine iT (decide_eq_true b)<|d8<|c9<|rn rfl ?_
  obtain ⟨o,h,H⟩:=f6 H
  refine kC (cl (K6.ok h) [0] .u) ?_
  refine rn rfl ?_
  obtain ⟨i,H⟩:=i8 H
  refine k0 (rem i) ?_
  refine rn rfl<|d9<|c8<|f7<|f8 ?_
  obtain rfl:=si H
  exact rt hE []
 refine iF (decide_eq_false b)<|i9<|c8<|d8<|c9<|rn rfl ?_
 obtain ⟨p,j,H⟩:=f6 H
 refine kC (cl (K6.ok j) [0] .u) ?_
 refine rn rfl<|d9<|c8<|d8<|c9<|rn rfl ?_
 obtain ⟨q,k,H⟩:=f6 H
 refine kC (cl (K6.ok k) [0] .u) ?_
 refine rn rfl<|d9<|c8<|d8<|c9<|rn rfl ?_
 obtain ⟨s,l,H⟩:=f6 H
 refine kC (cl (K6.ok l) [0] .u) ?_
 refine rn rfl<|d9<|c8<|d8<|c9<|rn rfl ?_
 obtain ⟨t,m,H⟩:=f6 H
 refine kC (cl (K6.ok m) [0] .u) ?_
 refine rn rfl<|d9<|c8<|d8<|c9<|rn rfl ?_
 obtain ⟨n,H⟩:=i8 H
 refine k0 (rem n) ?_
 refine rn rfl<|d9<|c8<|f7 ?_
 obtain rfl:=si H
 exact rt hE []
def L9.f (b : List Int) (c : Int) (d : Int) (e : Int) : Option (Bool×(List Int)×Int×Int):=(n9.f b c d e).bind fun a=>some (a.1 == 0,a.2.1,a.2.2.1,a.2.2.2)
theorem L9.ok (H : L9.f a b c d = some r) : j7 Tryz.prog 110 [(0,.box 173 [.sl .u 1 (a.map (eI .u8)),.lit (.int .i64 b),.lit (.int .i64 c)])] [.box 0 0,.lit (.int .i64 d)] [(0,.box 173 [.sl .u 1 (r.2.1.map (eI .u8)),.lit (.int .i64 r.2.2.1),.lit (.int .i64 r.2.2.2)])] (.lit (.bool r.1)):=by
 refine u3 9 Tryz.func110 fun E hE=>?_
 rw [L9.f] at H
 refine d8<|c9<|rn rfl<|d9<|c8<|d8<|c9<|rn rfl ?_
 obtain ⟨g,e,H⟩:=f6 H
 refine kC (cl (n9.ok e) [0] .u) ?_
 refine rn rfl<|d9<|c8<|f7 ?_
 obtain rfl:=si H
 exact rt hE []
def R8.f (c : List Int) (d : Int) (e : Int) (b : List ByteArray) : Y22:=(n9.f c d e (b.length : Int)).bind fun a=>(if 0≤a.1 then (if a.1 < (b.length : Int) then some ((M0 ByteArray.empty b a.1),a.2.1,a.2.2.1,a.2.2.2) else none) else none)
theorem R8.ok (H : R8.f a b c d = some r) : j7 Tryz.prog 111 [(0,.box 173 [.sl .u 1 (a.map (eI .u8)),.lit (.int .i64 b),.lit (.int .i64 c)])] [.box 0 0,.sl .o 1 (d.map eT')] [(0,.box 173 [.sl .u 1 (r.2.1.map (eI .u8)),.lit (.int .i64 r.2.2.1),.lit (.int .i64 r.2.2.2)])] (.lit (.string r.1)):=by
 refine u3 12 Tryz.func111 fun E hE=>?_
 rw [R8.f] at H
 refine d8<|c9<|rn rfl<|d9<|c8<|d8<|c9<|rn rfl<|k0 (G3 v7) ?_
 obtain ⟨i,e,H⟩:=f6 H
 refine kC (cl (n9.ok e) [0] .u) ?_
 obtain ⟨g,H⟩:=i8 H
 obtain ⟨h,H⟩:=i8 H
 refine k0 (iS g h) ?_
 refine rn rfl<|d9<|c8<|f7 ?_
 obtain rfl:=si H
 exact rt hE []
def B4.f (c : List Int) (d : Int) (e : Int) (b : List Int) : Y27:=(n9.f c d e (b.length : Int)).bind fun a=>(if 0≤a.1 then (if a.1 < (b.length : Int) then some ((rd b a.1),a.2.1,a.2.2.1,a.2.2.2) else none) else none)
theorem B4.ok (H : B4.f a b c d = some r) : j7 Tryz.prog 51 [(0,.box 173 [.sl .u 1 (a.map (eI .u8)),.lit (.int .i64 b),.lit (.int .i64 c)])] [.box 0 0,.sl .o 1 (d.map (eI .i64))] [(0,.box 173 [.sl .u 1 (r.2.1.map (eI .u8)),.lit (.int .i64 r.2.2.1),.lit (.int .i64 r.2.2.2)])] (.lit (.int .i64 r.1)):=by
 refine u3 12 Tryz.func51 fun E hE=>?_
 rw [B4.f] at H
 refine d8<|c9<|rn rfl<|d9<|c8<|d8<|c9<|rn rfl<|k0 (G3 v7) ?_
 obtain ⟨i,e,H⟩:=f6 H
 refine kC (cl (n9.ok e) [0] .u) ?_
 obtain ⟨g,H⟩:=i8 H
 obtain ⟨h,H⟩:=i8 H
 refine k0 (iS g h) ?_
 refine rn rfl<|d9<|c8<|f7 ?_
 obtain rfl:=si H
 exact rt hE []
def R7.f (c : List Int) (d : Int) (e : Int) : Y27:=(n9.f c d e 12).bind fun a=>((B4.f a.2.1 a.2.2.1 a.2.2.2 ([0,1,2,3,5,7,255,4294967295,2147483648,a.1] : List Int)).bind fun b=>some (b.1,b.2.1,b.2.2.1,b.2.2.2))
theorem R7.ok (H : R7.f a b c = some r) : j7 Tryz.prog 227 [(0,.box 173 [.sl .u 1 (a.map (eI .u8)),.lit (.int .i64 b),.lit (.int .i64 c)])] [.box 0 0] [(0,.box 173 [.sl .u 1 (r.2.1.map (eI .u8)),.lit (.int .i64 r.2.2.1),.lit (.int .i64 r.2.2.2)])] (.lit (.int .i64 r.1)):=by
 refine u3 8 Tryz.func227 fun E hE=>?_
 rw [R7.f] at H
 refine d8<|c9<|rn rfl<|d9<|c8<|d8<|c9<|rn rfl ?_
 obtain ⟨d,e,H⟩:=f6 H
 refine kC (cl (n9.ok e) [0] .u)<|k1 (u7 1 3 1 [.int .i64 0] (([0,1,2,3,5,7,255,4294967295,2147483648,d.1] : List Int).map (eI .i64))) ?_
 obtain ⟨h,g,H⟩:=f6 H
 refine kC (cl (B4.ok g) [0] .u) ?_
 refine rn rfl<|d9<|c8<|f7 ?_
 obtain rfl:=si H
 exact rt hE []
def Q2.f (d : List Int) (e : Int) (g : Int) : Option (Int×Int×(List Int)×Int×Int):=(R7.f d e g).bind fun b=>(L9.f b.2.1 b.2.2.1 b.2.2.2 3).bind fun a=>if a.1 = true then ((R7.f a.2.1 a.2.2.1 a.2.2.2).bind fun c=>some (c.1,b.1,c.2.1,c.2.2.1,c.2.2.2)) else some (0,b.1,a.2.1,a.2.2.1,a.2.2.2)
theorem Q2.ok (H : Q2.f b c d = some r) : j7 Tryz.prog 181 [(0,.box 173 [.sl .u 1 (b.map (eI .u8)),.lit (.int .i64 c),.lit (.int .i64 d)])] [.box 0 0] [(0,.box 173 [.sl .u 1 (r.2.2.1.map (eI .u8)),.lit (.int .i64 r.2.2.2.1),.lit (.int .i64 r.2.2.2.2)])] (.agg [.lit (.int .i64 r.1),.lit (.int .i64 r.2.1)]):=by
 refine u3 13 Tryz.func181 fun E hE=>?_
 rw [Q2.f] at H
 refine d8<|c9<|k1 (al 1)<|d9<|c8<|d8<|c9 ?_
 refine rn rfl ?_
 obtain ⟨i,e,H⟩:=f6 H
 refine kC (cl (R7.ok e) [0] .u) ?_
 refine rn rfl<|k1 (al 2) ?_
 refine rn rfl<|d9<|c8<|d8<|d8<|c9<|rn rfl ?_
 obtain ⟨j,g,H⟩:=f6 H
 refine kC (cl (L9.ok g) [0] .u)<|d9<|c8 ?_
 obtain ⟨a,H⟩|⟨a,H⟩:=oi H
 ·refine iT a<|c9<|rn rfl ?_
  obtain ⟨k,h,H⟩:=f6 H
  refine kC (cl (R7.ok h) [0] .u) ?_
  refine rn rfl<|d9<|c8<|d8<|c9<|rn rfl<|d9<|c8<|f7 ?_
  obtain rfl:=si H
  exact rt hE [] (hr:=(D5 2 .nil))
 refine iF (bF a)<|i9<|c8<|d8<|c9<|rn rfl<|d9<|c8<|f7 ?_
 obtain rfl:=si H
 exact rt hE [] (hr:=(D5 2 .nil))
def M1.l0 : Nat→Y34→Y34→(List Int)→Int→Int→(List r7)→Int→Y16
 | 0,_,_,_,_,_,_,_=>none
 | j + 1,c,d,e,g,h,b,i=>if i < 3 then (Q2.f e g h).bind fun a=>if b.length + ([(⟨a.1,a.2.1⟩ : r7)] : List r7).length < 8796093022208 then M1.l0 j c d a.2.2.1 a.2.2.2.1 a.2.2.2.2 (b ++ ([(⟨a.1,a.2.1⟩ : r7)] : List r7)) (wrap64 (i + 1)) else none else some (c.1,d.1,b,e,g,h)
def M1.f (k : Nat) (c : List Int) (d : Int) (e : Int) : Y16:=(B4.f c d e ([62,62,62,62,3] : List Int)).bind fun a=>((B4.f a.2.1 a.2.2.1 a.2.2.2 ([0,1,2,3,4,6,9,11,4294967295,77] : List Int)).bind fun b=>M1.l0 k a b b.2.1 b.2.2.1 b.2.2.2 ([]) 0)
theorem M1.ok (H : M1.f k m n o = some r) : j7 Tryz.prog 112 [(0,.box 173 [.sl .u 1 (m.map (eI .u8)),.lit (.int .i64 n),.lit (.int .i64 o)])] [.box 0 0] [(0,.box 173 [.sl .u 1 (r.2.2.2.1.map (eI .u8)),.lit (.int .i64 r.2.2.2.2.1),.lit (.int .i64 r.2.2.2.2.2)]),(1,.row 186 2 (r.2.2.1.map S2))] (.agg [.lit (.int .i64 r.1),.lit (.int .i64 r.2.1),.row 1]):=by
 refine u3 26 Tryz.func112 fun E hE=>?_
 rw [M1.f] at H
 refine d8<|c9<|k1 (al 1)<|d9<|c8<|d8<|c9 ?_
 refine rn rfl<|k1 (u7 2 3 1 [.int .i64 0] (([62,62,62,62,3] : List Int).map (eI .i64))) ?_
 obtain ⟨b,p,H⟩:=f6 H
 refine kC (cl (B4.ok p) [0] .u) ?_
 refine rn rfl<|k1 (u7 3 3 1 [.int .i64 0] (([0,1,2,3,4,6,9,11,4294967295,77] : List Int).map (eI .i64))) ?_
 obtain ⟨c,q,H⟩:=f6 H
 refine kC (cl (B4.ok q) [0] .u) ?_
 refine rn rfl<|k1 (al 4) ?_
 refine rn rfl<|d9<|c8<|d8<|d8<|c9<|rn rfl<|d9<|c8<|j4 ?_
 refine C4 4 2 8 186 2 [.lit (.int .i64 b.1),.lit (.int .i64 c.1),.row 8] ?_
 refine lp5 (fun k=>M1.l0 k b c) (fun g i j d l=>⟨[(0,.box 0 0),(2,.box 1 0),(3,.box 4 0),(4,.lit (.int .i64 l))],[(0,.box 173 [.sl .u 1 (g.map (eI .u8)),.lit (.int .i64 i),.lit (.int .i64 j)]),(1,.box 60 [.lit (.int .i64 0),.lit (.int .i64 0),.lit (.slice none 0 0)]),(4,.box 60 [.lit (.int .i64 b.1),.lit (.int .i64 c.1),.row 8]),(8,.row 186 2 (d.map S2))]⟩) H (fun _ h=>aw hE [] h) (fun _ _ _ _ _ _=>M1.l0.eq_2 ..) fun v g i j d l w H x s=>?_
 refine d8<|d8<|c9<|rn rfl<|d9<|c8 ?_
 obtain ⟨e,H⟩|⟨e,H⟩:=oi H
 ·refine iT (decide_eq_true e)<|i9<|c8<|d8<|j4<|d8<|c9<|rn rfl ?_
  obtain ⟨a,t,H⟩:=f6 H
  refine kC (cl (Q2.ok t) [0] .u)<|k1 (al 9) ?_
  refine rn rfl<|d9<|c8<|c9<|rn rfl<|k1 (u7 10 186 2 [.int .i64 0,.int .i64 0] (([(⟨a.1,a.2.1⟩ : r7)] : List r7).map S2)) ?_
  obtain ⟨u,H⟩:=i8 H
  refine k3 (D7 11 186 2 16 [.int .i64 0,.int .i64 0] ((d ++ ([(⟨a.1,a.2.1⟩ : r7)] : List r7)).map S2) (.row rfl) (D8 u rfl) z7) ?_
  refine rn rfl<|d9<|j6<|c8<|c9<|rn rfl<|d9<|l6 ?_
  exact aw hE [(8,11)] (s (Nat.le_refl _) H)
 refine iF (decide_eq_false e)<|m6<|j5<|j5<|n7 rfl<|c8<|d8<|c9<|rn rfl<|d9<|c8<|f7 ?_
 obtain rfl:=si H
 exact rt hE [(1,8)] (hr:=(D5 3 .nil))
def ab5.f (g : List Int) (h : Int) (i : Int) : Option (Int×Int×Int×Int×Int×Int×(List Int)×Int×Int):=(n9.f g h i 3).bind fun c=>((n9.f c.2.1 c.2.2.1 c.2.2.2 6).bind fun d=>((Q2.f d.2.1 d.2.2.1 d.2.2.2).bind fun a=>(L9.f a.2.2.1 a.2.2.2.1 a.2.2.2.2 3).bind fun b=>if b.1 = true then ((Q2.f b.2.1 b.2.2.1 b.2.2.2).bind fun e=>some (c.1,e.1,e.2.1,wrap64 (1 + d.1),a.1,a.2.1,e.2.2.1,e.2.2.2.1,e.2.2.2.2)) else some (c.1,4294967295,4294967295,wrap64 (1 + d.1),a.1,a.2.1,b.2.1,b.2.2.1,b.2.2.2)))
theorem ab5.ok (H : ab5.f b c d = some r) : j7 Tryz.prog 290 [(0,.box 173 [.sl .u 1 (b.map (eI .u8)),.lit (.int .i64 c),.lit (.int .i64 d)])] [.box 0 0] [(0,.box 173 [.sl .u 1 (r.2.2.2.2.2.2.1.map (eI .u8)),.lit (.int .i64 r.2.2.2.2.2.2.2.1),.lit (.int .i64 r.2.2.2.2.2.2.2.2)])] (.agg [.lit (.int .i64 r.1),.lit (.int .i64 r.2.1),.lit (.int .i64 r.2.2.1),.lit (.int .i64 r.2.2.2.1),.lit (.int .i64 r.2.2.2.2.1),.lit (.int .i64 r.2.2.2.2.2.1)]):=by
 refine u3 19 Tryz.func290 fun E hE=>?_
 rw [ab5.f] at H
 refine d8<|c9<|k1 (al 1)<|d9<|c8<|d8<|c9 ?_
 refine rn rfl ?_
 obtain ⟨k,e,H⟩:=f6 H
 refine kC (cl (n9.ok e) [0] .u) ?_
 refine rn rfl ?_
 obtain ⟨l,g,H⟩:=f6 H
 refine kC (cl (n9.ok g) [0] .u) ?_
 refine rn rfl ?_
 obtain ⟨m,h,H⟩:=f6 H
 refine kC (cl (Q2.ok h) [0] .u) ?_
 refine rn rfl<|k1 (al 2) ?_
 refine rn rfl<|d9<|c8<|d8<|d8<|c9<|rn rfl ?_
 obtain ⟨n,i,H⟩:=f6 H
 refine kC (cl (L9.ok i) [0] .u)<|d9<|c8 ?_
 obtain ⟨a,H⟩|⟨a,H⟩:=oi H
 ·refine iT a<|c9<|rn rfl ?_
  obtain ⟨o,j,H⟩:=f6 H
  refine kC (cl (Q2.ok j) [0] .u) ?_
  refine rn rfl<|d9<|c8<|d8<|c9<|rn rfl<|d9<|c8<|f7 ?_
  obtain rfl:=si H
  exact rt hE [] (hr:=(D5 6 .nil))
 refine iF (bF a)<|i9<|c8<|d8<|c9<|rn rfl<|d9<|c8<|f7 ?_
 obtain rfl:=si H
 exact rt hE [] (hr:=(D5 6 .nil))
mutual
def y0.l0 : Nat→Y34→Int→Y34→(List Int)→Int→Int→(List Int)→Int→Int→Y10
 | 0,_,_,_,_,_,_,_,_,_=>none
 | k + 1,b,c,d,l,m,n,g,i,o=>if o < (wrap64 (d.1 - 1)) then (n9.f l m n 3).bind fun h=>if g.length + ([wrap64 ((wrap64 ((wrap64 (i + 1)) + h.1)) - 1)] : List Int).length < 17592186044416 then y0.l0 k b c d h.2.1 h.2.2.1 h.2.2.2 (g ++ ([wrap64 ((wrap64 ((wrap64 (i + 1)) + h.1)) - 1)] : List Int)) (wrap64 ((wrap64 (i + 1)) + h.1)) (wrap64 (o + 1)) else none else y0.l1 k b c g l m n ([]) 0
def y0.l1 : Nat→Y34→Int→(List Int)→(List Int)→Int→Int→(List B9)→Int→Y10
 | 0,_,_,_,_,_,_,_,_=>none
 | q + 1,b,c,g,r,s,t,j,p=>(n9.f r s t 3).bind fun e=>if p < e.1 then (ab5.f e.2.1 e.2.2.1 e.2.2.2).bind fun a=>(if j.length + ([(⟨a.1,(⟨a.2.1,a.2.2.1⟩ : r7),a.2.2.2.1,(⟨a.2.2.2.2.1,a.2.2.2.2.2.1⟩ : r7)⟩ : B9)] : List B9).length < 2932031007402 then y0.l1 q b c g a.2.2.2.2.2.2.1 a.2.2.2.2.2.2.2.1 a.2.2.2.2.2.2.2.2 (j ++ ([(⟨a.1,(⟨a.2.1,a.2.2.1⟩ : r7),a.2.2.2.1,(⟨a.2.2.2.2.1,a.2.2.2.2.2.1⟩ : r7)⟩ : B9)] : List B9)) (wrap64 (p + 1)) else none) else some (g,j,b.1,c,e.2.1,e.2.2.1,e.2.2.2)
def y0.j0 : Nat→Y34→(List Int)→Int→Int→Int→Y10
 | 0,_,_,_,_,_=>none
 | u + 1,b,v,w,x,c=>(n9.f v w x 4).bind fun d=>y0.l0 u b c d d.2.1 d.2.2.1 d.2.2.2 ([]) 0 0
end
def y0.f (k : Nat) (c : List Int) (d : Int) (e : Int) : Y10:=(B4.f c d e ([0,1,2,3,4,4,5] : List Int)).bind fun a=>if a.1 = 2 then ((B4.f a.2.1 a.2.2.1 a.2.2.2 ([1,13,65535] : List Int)).bind fun b=>y0.j0 k a b.2.1 b.2.2.1 b.2.2.2 b.1) else y0.j0 k a a.2.1 a.2.2.1 a.2.2.2 0
theorem y0.ok (H : y0.f k C D F = some r) : j7 Tryz.prog 232 [(0,.box 173 [.sl .u 1 (C.map (eI .u8)),.lit (.int .i64 D),.lit (.int .i64 F)])] [.box 0 0] [(0,.box 173 [.sl .u 1 (r.2.2.2.2.1.map (eI .u8)),.lit (.int .i64 r.2.2.2.2.2.1),.lit (.int .i64 r.2.2.2.2.2.2)]),(1,.row 3 1 (r.1.map (eI .i64))),(2,.row 273 6 (r.2.1.map S9))] (.agg [.row 1,.row 2,.lit (.int .i64 r.2.2.1),.lit (.int .i64 r.2.2.2.1)]):=by
 refine u3 53 Tryz.func232 fun E hE=>?_
 rw [y0.f] at H
 refine d8<|c9<|k1 (al 1)<|d9<|c8<|d8<|c9 ?_
 refine rn rfl<|k1 (u7 2 3 1 [.int .i64 0] (([0,1,2,3,4,4,5] : List Int).map (eI .i64))) ?_
 obtain ⟨b,G,H⟩:=f6 H
 refine kC (cl (B4.ok G) [0] .u) ?_
 refine rn rfl<|k1 (al 3) ?_
 refine rn rfl<|d9<|c8 ?_
 refine H0 (J:=Jc4 E 53 r k (fun k=>y0.j0 k b) (fun m n o c=>⟨[(0,.box 0 0),(2,.box 1 0),(3,.box 3 0)],[(0,.box 173 [.sl .u 1 (m.map (eI .u8)),.lit (.int .i64 n),.lit (.int .i64 o)]),(1,.box 233 [.lit (.slice none 0 0),.lit (.slice none 0 0),.lit (.int .i64 0),.lit (.int .i64 0)]),(3,.box 233 [.lit (.slice none 0 0),.lit (.slice none 0 0),.lit (.int .i64 b.1),.lit (.int .i64 c)])]⟩)) ?_ ?_
 ·intro T p
  refine d8<|c9<|rn rfl<|d9<|c8 ?_
  obtain ⟨g,H⟩|⟨g,H⟩:=oi H
  ·refine iT (eT g)<|c9<|rn rfl<|k1 (u7 4 3 1 [.int .i64 0] (([1,13,65535] : List Int).map (eI .i64))) ?_
   obtain ⟨U,I,H⟩:=f6 H
   refine kC (cl (B4.ok I) [0] .u) ?_
   refine rn rfl<|d9<|l6 ?_
   exact aw hE [] (p.u (Nat.le_refl _) H)
  refine iF (eF g)<|i9<|l6 ?_
  exact aw hE [] (p.u (Nat.le_refl _) H)
 refine jc4 (fun _ _ _ _ _=>y0.j0.eq_2 ..) fun V m n o c W H=>?_
 refine d8<|c9<|rn rfl ?_
 obtain ⟨q,K,H⟩:=f6 H
 refine kC (cl (n9.ok K) [0] .u) ?_
 refine rn rfl<|d9<|c8<|d8<|c9<|rn rfl<|d9<|c8<|d8<|d8<|c9<|rn rfl<|d9<|c8<|j4 ?_
 refine C4 3 0 7 3 1 [.row 7,.lit (.slice none 0 0),.lit (.int .i64 b.1),.lit (.int .i64 c)] ?_
 refine lp6 (fun k=>y0.l0 k b c q) (fun s t u d e v=>⟨[(0,.box 0 0),(2,.box 1 0),(3,.box 3 0),(4,.lit (.int .i64 (wrap64 (q.1 - 1)))),(5,.lit (.int .i64 e)),(6,.lit (.int .i64 v))],[(0,.box 173 [.sl .u 1 (s.map (eI .u8)),.lit (.int .i64 t),.lit (.int .i64 u)]),(1,.box 233 [.lit (.slice none 0 0),.lit (.slice none 0 0),.lit (.int .i64 0),.lit (.int .i64 0)]),(3,.box 233 [.row 7,.lit (.slice none 0 0),.lit (.int .i64 b.1),.lit (.int .i64 c)]),(7,.row 3 1 (d.map (eI .i64)))]⟩) H (fun _ h=>aw hE [] h) (fun _ _ _ _ _ _ _=>y0.l0.eq_2 ..) fun X s t u d e v Y H Z L=>?_
 refine d8<|d8<|c9<|rn rfl<|d9<|c8 ?_
 obtain ⟨i,H⟩|⟨i,H⟩:=oi H
 ·refine iT (decide_eq_true i)<|i9<|c8<|d8<|j4<|d8<|c9<|rn rfl ?_
  obtain ⟨w,M,H⟩:=f6 H
  refine kC (cl (n9.ok M) [0] .u) ?_
  refine rn rfl<|d9<|c8<|c9<|rn rfl<|k1 (u7 8 3 1 [.int .i64 0] (([wrap64 ((wrap64 ((wrap64 (e + 1)) + w.1)) - 1)] : List Int).map (eI .i64))) ?_
  obtain ⟨N,H⟩:=i8 H
  refine k3 (D7 9 3 1 8 [.int .i64 0] ((d ++ ([wrap64 ((wrap64 ((wrap64 (e + 1)) + w.1)) - 1)] : List Int)).map (eI .i64)) (.row rfl) (D8 N rfl) z7) ?_
  refine rn rfl<|d9<|j6<|c8<|c9<|rn rfl<|d9<|l6 ?_
  exact aw hE [(7,9)] (L (Nat.le_refl _) H)
 refine iF (decide_eq_false i)<|m6<|j5<|j5<|n7 rfl<|c8<|d8<|d8<|c9<|rn rfl<|d9<|c8<|j4 ?_
 refine C4 3 1 12 273 6 [.row 7,.row 12,.lit (.int .i64 b.1),.lit (.int .i64 c)] ?_
 refine lp5 (fun k=>y0.l1 k b c d) (fun x y z j B=>⟨[(0,.box 0 0),(2,.box 1 0),(3,.box 3 0),(7,.lit (.int .i64 B))],[(0,.box 173 [.sl .u 1 (x.map (eI .u8)),.lit (.int .i64 y),.lit (.int .i64 z)]),(1,.box 233 [.lit (.slice none 0 0),.lit (.slice none 0 0),.lit (.int .i64 0),.lit (.int .i64 0)]),(3,.box 233 [.row 7,.row 12,.lit (.int .i64 b.1),.lit (.int .i64 c)]),(7,.row 3 1 (d.map (eI .i64))),(12,.row 273 6 (j.map S9))]⟩) H (fun _ h=>aw hE [] h) (fun _ _ _ _ _ _=>y0.l1.eq_2 ..) fun a0 x y z j B a1 H a2 O=>?_
 refine d8<|d8<|c9<|rn rfl ?_
 obtain ⟨a3,P,H⟩:=f6 H
 refine kC (cl (n9.ok P) [0] .u) ?_
 refine rn rfl<|d9<|c8 ?_
 obtain ⟨l,H⟩|⟨l,H⟩:=oi H
 ·refine iT (decide_eq_true l)<|i9<|c8<|d8<|j4<|c9<|rn rfl ?_
  obtain ⟨a,Q,H⟩:=f6 H
  refine kC (cl (ab5.ok Q) [0] .u)<|k1 (u7 13 273 6 [.int .i64 0,.int .i64 0,.int .i64 0,.int .i64 0,.int .i64 0,.int .i64 0] (([(⟨a.1,(⟨a.2.1,a.2.2.1⟩ : r7),a.2.2.2.1,(⟨a.2.2.2.2.1,a.2.2.2.2.2.1⟩ : r7)⟩ : B9)] : List B9).map S9)) ?_
  obtain ⟨R,H⟩:=i8 H
  refine k3 (D7 14 273 6 48 [.int .i64 0,.int .i64 0,.int .i64 0,.int .i64 0,.int .i64 0,.int .i64 0] ((j ++ ([(⟨a.1,(⟨a.2.1,a.2.2.1⟩ : r7),a.2.2.2.1,(⟨a.2.2.2.2.1,a.2.2.2.2.2.1⟩ : r7)⟩ : B9)] : List B9)).map S9) (.row rfl) (D8 R rfl) z7) ?_
  refine rn rfl<|ed<|j6<|c8<|c9<|rn rfl<|d9<|l6 ?_
  exact aw hE [(12,14)] (O (Nat.le_refl _) H)
 refine iF (decide_eq_false l)<|m6<|j5<|j5<|n7 rfl<|c8<|d8<|c9<|rn rfl<|d9<|c8<|f7 ?_
 obtain rfl:=si H
 exact rt hE [(1,7),(2,12)] (hr:=(D5 4 .nil))
mutual
def B8.l0 : Nat→Y34→Int→(List Int)→Int→Int→(List D9)→Int→Y14
 | 0,_,_,_,_,_,_,_=>none
 | g + 1,b,d,i,j,k,e,h=>(n9.f i j k 5).bind fun c=>if h < c.1 then (y0.f g c.2.1 c.2.2.1 c.2.2.2).bind fun a=>(if e.length + ([(⟨a.1,a.2.1,a.2.2.1,a.2.2.2.1⟩ : D9)] : List D9).length < 2199023255552 then B8.l0 g b d a.2.2.2.2.1 a.2.2.2.2.2.1 a.2.2.2.2.2.2 (e ++ ([(⟨a.1,a.2.1,a.2.2.1,a.2.2.2.1⟩ : D9)] : List D9)) (wrap64 (h + 1)) else none) else some (62,b.1,d,e,c.2.1,c.2.2.1,c.2.2.2)
def B8.j0 : Nat→Y34→Int→Y14
 | 0,_,_=>none
 | l + 1,b,d=>B8.l0 l b d b.2.1 b.2.2.1 b.2.2.2 ([]) 0
end
def B8.f (k : Nat) (b : List Int) (c : Int) (d : Int) : Y14:=(B4.f b c d ([5,4,0,2] : List Int)).bind fun a=>if a.1 = 2 then B8.j0 k a 1 else B8.j0 k a 0
theorem B8.ok (H : B8.f k o p q = some r) : j7 Tryz.prog 183 [(0,.box 173 [.sl .u 1 (o.map (eI .u8)),.lit (.int .i64 p),.lit (.int .i64 q)])] [.box 0 0] [(0,.box 173 [.sl .u 1 (r.2.2.2.2.1.map (eI .u8)),.lit (.int .i64 r.2.2.2.2.2.1),.lit (.int .i64 r.2.2.2.2.2.2)]),(1,.row 233 4 (r.2.2.2.1.map X0))] (.agg [.lit (.int .i64 r.1),.lit (.int .i64 r.2.1),.lit (.int .i64 r.2.2.1),.row 1]):=by
 refine u3 27 Tryz.func183 fun E hE=>?_
 rw [B8.f] at H
 refine d8<|c9<|k1 (al 1)<|d9<|c8<|d8<|c9 ?_
 refine rn rfl<|k1 (u7 2 3 1 [.int .i64 0] (([5,4,0,2] : List Int).map (eI .i64))) ?_
 obtain ⟨b,s,H⟩:=f6 H
 refine kC (cl (B4.ok s) [0] .u) ?_
 refine rn rfl<|k1 (al 3) ?_
 refine rn rfl<|d9<|c8 ?_
 refine H0 (J:=Jc1 E 27 r k (fun k=>B8.j0 k b) (fun c=>⟨[(0,.box 0 0),(2,.box 1 0),(3,.box 3 0)],[(0,.box 173 [.sl .u 1 (b.2.1.map (eI .u8)),.lit (.int .i64 b.2.2.1),.lit (.int .i64 b.2.2.2)]),(1,.box 189 [.lit (.int .i64 0),.lit (.int .i64 0),.lit (.int .i64 0),.lit (.slice none 0 0)]),(3,.box 189 [.lit (.int .i64 62),.lit (.int .i64 b.1),.lit (.int .i64 c),.lit (.slice none 0 0)])]⟩)) ?_ ?_
 ·intro x i
  refine d8<|c9<|rn rfl<|d9<|c8 ?_
  obtain ⟨d,H⟩|⟨d,H⟩:=oi H
  ·refine iT (eT d)<|c9<|rn rfl<|d9<|l6 ?_
   exact aw hE [] (i.u (Nat.le_refl _) H)
  refine iF (eF d)<|i9<|l6 ?_
  exact aw hE [] (i.u (Nat.le_refl _) H)
 refine jc1 (fun _ _=>B8.j0.eq_2 ..) fun y c z H=>?_
 refine d8<|d8<|c9<|rn rfl<|d9<|c8<|j4 ?_
 refine C4 3 3 6 233 4 [.lit (.int .i64 62),.lit (.int .i64 b.1),.lit (.int .i64 c),.row 6] ?_
 refine lp5 (fun k=>B8.l0 k b c) (fun j l m e n=>⟨[(0,.box 0 0),(2,.box 1 0),(3,.box 3 0),(4,.lit (.int .i64 n))],[(0,.box 173 [.sl .u 1 (j.map (eI .u8)),.lit (.int .i64 l),.lit (.int .i64 m)]),(1,.box 189 [.lit (.int .i64 0),.lit (.int .i64 0),.lit (.int .i64 0),.lit (.slice none 0 0)]),(3,.box 189 [.lit (.int .i64 62),.lit (.int .i64 b.1),.lit (.int .i64 c),.row 6]),(6,.row 233 4 (e.map X0))]⟩) H (fun _ h=>aw hE [] h) (fun _ _ _ _ _ _=>B8.l0.eq_2 ..) fun B j l m e n C H D t=>?_
 refine d8<|d8<|c9<|rn rfl ?_
 obtain ⟨F,u,H⟩:=f6 H
 refine kC (cl (n9.ok u) [0] .u) ?_
 refine rn rfl<|d9<|c8 ?_
 obtain ⟨g,H⟩|⟨g,H⟩:=oi H
 ·refine iT (decide_eq_true g)<|i9<|c8<|d8<|j4<|c9<|rn rfl ?_
  obtain ⟨a,v,H⟩:=f6 H
  refine kC (cl ((y0.ok v).frzP (L:=[.box 173 [.sl .u 1 (a.2.2.2.2.1.map (eI .u8)),.lit (.int .i64 a.2.2.2.2.2.1),.lit (.int .i64 a.2.2.2.2.2.2)]]) (M:=[.row 3 1 (a.1.map (eI .i64)),.row 273 6 (a.2.1.map S9)]) (.agg [.sl .n 1 (a.1.map (eI .i64)),.sl .n 6 (a.2.1.map S9),.lit (.int .i64 a.2.2.1),.lit (.int .i64 a.2.2.2.1)]) rfl rfl) [0] .u)<|k1 (u7 7 233 4 [.slice none 0 0,.slice none 0 0,.int .i64 0,.int .i64 0] (([(⟨a.1,a.2.1,a.2.2.1,a.2.2.2.1⟩ : D9)] : List D9).map X0)) ?_
  obtain ⟨w,H⟩:=i8 H
  refine k3 (D7 8 233 4 64 [.slice none 0 0,.slice none 0 0,.int .i64 0,.int .i64 0] ((e ++ ([(⟨a.1,a.2.1,a.2.2.1,a.2.2.2.1⟩ : D9)] : List D9)).map X0) (.row rfl) (D8 w rfl) z7) ?_
  refine rn rfl<|ed<|j6<|c8<|c9<|rn rfl<|d9<|l6 ?_
  exact aw hE [(6,8)] (t (Nat.le_refl _) H)
 refine iF (decide_eq_false g)<|m6<|j5<|j5<|n7 rfl<|c8<|d8<|c9<|rn rfl<|d9<|c8<|f7 ?_
 obtain rfl:=si H
 exact rt hE [(1,6)] (hr:=(D5 4 .nil))
def M4.f (a : Int) (b : Int) (c : Int) : P0:=if a ≥ b then some (decide (a≤c)) else some false
theorem M4.ok (H : M4.f b c d = some r) : j7 Tryz.prog 59 [] [.lit (.int .i64 b),.lit (.int .i64 c),.lit (.int .i64 d)] [] (.lit (.bool r)):=by
 refine u3 15 Tryz.func59 fun E hE=>?_
 rw [M4.f] at H
 refine d8<|c9<|rn rfl<|d9<|c8<|d8<|c9<|rn rfl ?_
 obtain ⟨a,H⟩|⟨a,H⟩:=oi H
 ·refine kv (g1 (decide_eq_true a)) mv<|kv (g1 (decide_eq_true a)) mv<|kv (g1 (decide_eq_true a)) leq ?_
  refine k0 (o8 (decide_eq_true a)) ?_
  refine rn rfl<|d9<|c8<|f7 ?_
  obtain rfl:=si H
  exact rt hE []
 iterate 3 refine kx (hT (decide_eq_false a)) ?_
 refine k0 (n8 (decide_eq_false a)) ?_
 refine rn rfl<|d9<|c8<|f7 ?_
 obtain rfl:=si H
 exact rt hE []
def P3.f (a : Int) : P0:=(M4.f a 0 4294967295).bind fun b=>some b
theorem P3.ok (H : P3.f a = some r) : j7 Tryz.prog 147 [] [.lit (.int .i64 a)] [] (.lit (.bool r)):=by
 refine u3 5 Tryz.func147 fun E hE=>?_
 rw [P3.f] at H
 refine d8<|c9<|rn rfl<|d9<|c8<|d8<|c9<|rn rfl ?_
 obtain ⟨c,b,H⟩:=f6 H
 refine kC (cl (M4.ok b) []) ?_
 refine rn rfl<|d9<|c8<|f7 ?_
 obtain rfl:=si H
 exact rt hE []
def W2.f (a : Int) (b : Int) : P0:=(P3.f a).bind fun c=>(if c = true then ((P3.f b).bind fun d=>some d) else some false)
theorem W2.ok (H : W2.f b c = some r) : j7 Tryz.prog 162 [] [.agg [.lit (.int .i64 b),.lit (.int .i64 c)]] [] (.lit (.bool r)):=by
 refine u3 11 Tryz.func162 fun E hE=>?_
 rw [W2.f] at H
 refine d8<|c9<|k1 (K2 0) ?_
 refine rn rfl<|d9<|c8<|d8<|c9<|rn rfl ?_
 obtain ⟨g,d,H⟩:=f6 H
 refine kC (cl (P3.ok d) []) ?_
 refine rn rfl ?_
 obtain ⟨a,H⟩|⟨a,H⟩:=oi H
 ·refine kv (g1 a) (y8 1 1)<|kv (g1 a) B5 ?_
  obtain ⟨h,e,H⟩:=f6 H
  refine N5 (g1 a) (cl (P3.ok e) []) ?_
  refine k0 (o8 a) ?_
  refine rn rfl<|d9<|c8<|f7 ?_
  obtain rfl:=si H
  exact rt hE []
 iterate 3 refine kx (hT (bF a)) ?_
 refine k0 (n8 (bF a)) ?_
 refine rn rfl<|d9<|c8<|f7 ?_
 obtain rfl:=si H
 exact rt hE []
def ad6.f (a : Int) (b : Int) (c : Int) (d : Int) (e : Int) (g : Int) : P0:=(M4.f a 0 2).bind fun h=>(if h = true then ((W2.f b c).bind fun i=>(if i = true then ((W2.f e g).bind fun j=>(if j = true then ((M4.f d 1 6).bind fun k=>some k) else some false)) else some false)) else some false)
theorem ad6.ok (H : ad6.f d e g h i j = some r) : j7 Tryz.prog 328 [] [.agg [.lit (.int .i64 d),.lit (.int .i64 e),.lit (.int .i64 g),.lit (.int .i64 h),.lit (.int .i64 i),.lit (.int .i64 j)]] [] (.lit (.bool r)):=by
 refine u3 21 Tryz.func328 fun E hE=>?_
 rw [ad6.f] at H
 refine d8<|c9<|k1 (K2 0) ?_
 refine rn rfl<|d9<|c8<|d8<|c9<|rn rfl ?_
 obtain ⟨o,k,H⟩:=f6 H
 refine kC (cl (M4.ok k) []) ?_
 refine rn rfl ?_
 obtain ⟨a,H⟩|⟨a,H⟩:=oi H
 ·refine kv (g1 a) (y8 1 1)<|kv (g1 a) (bA 2) ?_
  obtain ⟨p,l,H⟩:=f6 H
  refine N5 (g1 a) (cl (W2.ok l) []) ?_
  refine k0 (o8 a) ?_
  refine rn rfl ?_
  obtain ⟨b,H⟩|⟨b,H⟩:=oi H
  ·refine kv (g1 b) (y8 4 4)<|kv (g1 b) (bA 2) ?_
   obtain ⟨q,m,H⟩:=f6 H
   refine N5 (g1 b) (cl (W2.ok m) []) ?_
   refine k0 (o8 b) ?_
   refine rn rfl ?_
   obtain ⟨c,H⟩|⟨c,H⟩:=oi H
   ·refine kv (g1 c) (y8 3 3)<|kv (g1 c) B5 ?_
    obtain ⟨s,n,H⟩:=f6 H
    refine N5 (g1 c) (cl (M4.ok n) []) ?_
    refine k0 (o8 c) ?_
    refine rn rfl<|d9<|c8<|f7 ?_
    obtain rfl:=si H
    exact rt hE []
   iterate 3 refine kx (hT (bF c)) ?_
   refine k0 (n8 (bF c)) ?_
   refine rn rfl<|d9<|c8<|f7 ?_
   obtain rfl:=si H
   exact rt hE []
  iterate 3 refine kx (hT (bF b)) ?_
  refine k0 (n8 (bF b)) ?_
  refine rn rfl ?_
  iterate 3 refine kx (hT rfl) ?_
  refine k0 (n8 rfl) ?_
  refine rn rfl<|d9<|c8<|f7 ?_
  obtain rfl:=si H
  exact rt hE []
 iterate 3 refine kx (hT (bF a)) ?_
 refine k0 (n8 (bF a)) ?_
 refine rn rfl ?_
 iterate 3 refine kx (hT rfl) ?_
 refine k0 (n8 rfl) ?_
 refine rn rfl ?_
 iterate 3 refine kx (hT rfl) ?_
 refine k0 (n8 rfl) ?_
 refine rn rfl<|d9<|c8<|f7 ?_
 obtain rfl:=si H
 exact rt hE []
def V8.f (a : Int) (b : Int) : P0:=(M4.f a 0 5).bind fun c=>(if c = true then ((M4.f b 0 65535).bind fun d=>some d) else some false)
theorem V8.ok (H : V8.f b c = some r) : j7 Tryz.prog 286 [] [.lit (.int .i64 b),.lit (.int .i64 c)] [] (.lit (.bool r)):=by
 refine u3 11 Tryz.func286 fun E hE=>?_
 rw [V8.f] at H
 refine d8<|c9<|rn rfl<|d9<|c8<|d8<|c9<|rn rfl ?_
 obtain ⟨g,d,H⟩:=f6 H
 refine kC (cl (M4.ok d) []) ?_
 refine rn rfl ?_
 obtain ⟨a,H⟩|⟨a,H⟩:=oi H
 ·refine kv (g1 a) mv ?_
  obtain ⟨h,e,H⟩:=f6 H
  refine N5 (g1 a) (cl (M4.ok e) []) ?_
  refine k0 (o8 a) ?_
  refine rn rfl<|d9<|c8<|f7 ?_
  obtain rfl:=si H
  exact rt hE []
 iterate 2 refine kx (hT (bF a)) ?_
 refine k0 (n8 (bF a)) ?_
 refine rn rfl<|d9<|c8<|f7 ?_
 obtain rfl:=si H
 exact rt hE []
mutual
def B1.l0 : Nat→(List Int)→(List B9)→Int→Int→Int→P0
 | 0,_,_,_,_,_=>none
 | h + 1,b,a,e,g,c=>if c < (b.length : Int) then if 0≤c then ((P3.f (rd b c)).bind fun i=>(if i = true then (if c > 0 then (if 0≤(wrap64 (c - 1)) then (if (wrap64 (c - 1)) < (b.length : Int) then if (rd b (wrap64 (c - 1))) ≥ (rd b c) then some false else B1.l0 h b a e g (wrap64 (c + 1)) else none) else none) else B1.l0 h b a e g (wrap64 (c + 1))) else some false)) else none else B1.l1 h b a e g 0
def B1.l1 : Nat→(List Int)→(List B9)→Int→Int→Int→P0
 | 0,_,_,_,_,_=>none
 | j + 1,b,a,e,g,d=>if d < (a.length : Int) then if 0≤d then ((ad6.f ((A4 a d).f0) ((A4 a d).f1.f0) ((A4 a d).f1.f1) ((A4 a d).f2) ((A4 a d).f3.f0) ((A4 a d).f3.f1)).bind fun k=>if k = true then B1.l1 j b a e g (wrap64 (d + 1)) else some false) else none else if (b.length : Int)≤4 then (if (a.length : Int)≤3 then ((V8.f e g).bind fun l=>some l) else some false) else some false
end
def B1.f (k : Nat) (a : List Int) (b : List B9) (c : Int) (d : Int) : P0:=B1.l0 k a b c d 0
theorem B1.ok (H : B1.f k e g i j = some r) : j7 Tryz.prog 285 [] [.agg [.sl .o 1 (e.map (eI .i64)),.sl .o 6 (g.map S9),.lit (.int .i64 i),.lit (.int .i64 j)]] [] (.lit (.bool r)):=by
 refine u3 68 Tryz.func285 fun E hE=>?_
 rw [B1.f] at H
 refine d8<|c9<|k1 (K2 0) ?_
 refine rn rfl<|d9<|c8<|d8<|d8<|c9<|rn rfl<|d9<|c8<|j4 ?_
 refine lp1 (fun k=>B1.l0 k e g i j) (fun p=>⟨[(1,.box 0 0),(3,.lit (.int .i64 p))],[(0,.box 233 [.sl .o 1 (e.map (eI .i64)),.sl .o 6 (g.map S9),.lit (.int .i64 i),.lit (.int .i64 j)])]⟩) H (fun _ h=>aw hE [] h) (fun _ _=>B1.l0.eq_2 ..) fun C p D H F q=>?_
 refine d8<|d8<|c9<|rn rfl<|k0 (G3 v7) ?_
 refine rn rfl<|d9<|c8 ?_
 obtain ⟨l,H⟩|⟨l,H⟩:=oi H
 ·refine iT (decide_eq_true l)<|i9<|c8<|d8<|j4<|d8<|c9<|rn rfl ?_
  obtain ⟨s,H⟩:=i8 H
  refine k0 (iS s l) ?_
  refine rn rfl ?_
  obtain ⟨G,u,H⟩:=f6 H
  refine kC (cl (P3.ok u) []) ?_
  refine rn rfl ?_
  obtain ⟨b,H⟩|⟨b,H⟩:=oi H
  ·refine kv (g1 (nF b)) mv<|kv (g1 (nF b)) gtr<|kv (g1 (nF b)) mv ?_
   obtain ⟨a,H⟩|⟨a,H⟩:=oi H
   ·refine kv (g1 (decide_eq_true a)) (y8 0 0)<|kv (g1 (decide_eq_true a)) B5<|kv (g1 (decide_eq_true a)) mv<|kv (g1 (decide_eq_true a)) aQ7 ?_
    obtain ⟨v,H⟩:=i8 H
    obtain ⟨w,H⟩:=i8 H
    refine kv (g1 (decide_eq_true a)) (iS v w)<|kv (g1 (decide_eq_true a)) pL<|kv (g1 (decide_eq_true a)) (y8 0 0)<|kv (g1 (decide_eq_true a)) B5<|kv (g1 (decide_eq_true a)) mv<|kv (g1 (decide_eq_true a)) (iS s l)<|kv (g1 (decide_eq_true a)) pL<|kv (g1 (decide_eq_true a)) geq ?_
    refine kv (g1 (nF b)) (o8 (decide_eq_true a)) ?_
    refine k0 (n8 (nF b))<|ed<|c8 ?_
    obtain ⟨n,H⟩|⟨n,H⟩:=oi H
    ·refine iT (decide_eq_true n)<|d8<|c9<|rn rfl<|d9<|c8<|f7<|l7<|f8<|f8<|l7<|f8 ?_
     obtain rfl:=si H
     exact rt hE []
    refine iF (decide_eq_false n)<|i9<|j6<|c8<|c9<|rn rfl<|d9<|l6 ?_
    exact aw hE [] (q (Nat.le_refl _) H)
   iterate 12 refine kx (hT (decide_eq_false a)) ?_
   refine kv (g1 (nF b)) (n8 (decide_eq_false a)) ?_
   refine k0 (n8 (nF b))<|ed<|c8<|iF rfl<|i9<|j6<|c8<|c9 ?_
   refine rn rfl<|d9<|l6 ?_
   exact aw hE [] (q (Nat.le_refl _) H)
  iterate 2 refine kx (hF (nT (bF b))) ?_
  refine ku (neT (hF (nT (bF b)))) ?_
  iterate 12 refine ku neU ?_
  refine kx (hF (nT (bF b))) ?_
  refine k0 (o8 (nT (bF b)))<|ed<|c8<|iT rfl<|d8<|c9 ?_
  refine rn rfl<|d9<|c8<|f7<|l7<|f8<|f8<|l7<|f8 ?_
  obtain rfl:=si H
  exact rt hE []
 refine iF (decide_eq_false l)<|m6<|j5<|j5<|n7 rfl<|c8<|d8<|d8<|c9<|rn rfl<|d9<|c8<|j4 ?_
 refine lp1 (fun k=>B1.l1 k e g i j) (fun t=>⟨[(1,.box 0 0),(4,.lit (.int .i64 t))],[(0,.box 233 [.sl .o 1 (e.map (eI .i64)),.sl .o 6 (g.map S9),.lit (.int .i64 i),.lit (.int .i64 j)])]⟩) H (fun _ h=>aw hE [] h) (fun _ _=>B1.l1.eq_2 ..) fun I t J H K x=>?_
 refine d8<|d8<|c9<|rn rfl<|k0 (G3 v7) ?_
 refine rn rfl<|d9<|c8 ?_
 obtain ⟨m,H⟩|⟨m,H⟩:=oi H
 ·refine iT (decide_eq_true m)<|i9<|c8<|d8<|j4<|d8<|c9<|rn rfl ?_
  obtain ⟨y,H⟩:=i8 H
  refine k0 (iS y m) ?_
  refine rn rfl ?_
  obtain ⟨L,z,H⟩:=f6 H
  refine kC (cl (ad6.ok z) []) ?_
  refine rn rfl<|d9<|c8 ?_
  obtain ⟨o,H⟩|⟨o,H⟩:=oi H
  ·refine iF (nF o)<|i9<|j6<|c8<|c9<|rn rfl<|d9<|l6 ?_
   exact aw hE [] (x (Nat.le_refl _) H)
  refine iT (nT (bF o))<|d8<|c9<|rn rfl<|d9<|c8<|f7<|l7<|f8<|f8<|l7<|f8 ?_
  obtain rfl:=si H
  exact rt hE []
 refine iF (decide_eq_false m)<|m6<|j5<|j5<|n7 rfl<|c8<|d8<|c9<|rn rfl<|k0 (G3 v7) ?_
 refine rn rfl ?_
 obtain ⟨d,H⟩|⟨d,H⟩:=oi H
 ·refine kv (g1 (decide_eq_true d)) (y8 1 1)<|kv (g1 (decide_eq_true d)) B5<|kv (g1 (decide_eq_true d)) (G3 v7)<|kv (g1 (decide_eq_true d)) leq ?_
  refine k0 (o8 (decide_eq_true d)) ?_
  refine rn rfl ?_
  obtain ⟨c,H⟩|⟨c,H⟩:=oi H
  ·refine kv (g1 (decide_eq_true c)) (y8 2 2)<|kv (g1 (decide_eq_true c)) B5<|kv (g1 (decide_eq_true c)) (y8 3 3)<|kv (g1 (decide_eq_true c)) B5 ?_
   obtain ⟨M,B,H⟩:=f6 H
   refine N5 (g1 (decide_eq_true c)) (cl (V8.ok B) []) ?_
   refine k0 (o8 (decide_eq_true c)) ?_
   refine rn rfl<|d9<|c8<|f7 ?_
   obtain rfl:=si H
   exact rt hE []
  iterate 5 refine kx (hT (decide_eq_false c)) ?_
  refine k0 (n8 (decide_eq_false c)) ?_
  refine rn rfl<|d9<|c8<|f7 ?_
  obtain rfl:=si H
  exact rt hE []
 iterate 4 refine kx (hT (decide_eq_false d)) ?_
 refine k0 (n8 (decide_eq_false d)) ?_
 refine rn rfl ?_
 iterate 5 refine kx (hT rfl) ?_
 refine k0 (n8 rfl) ?_
 refine rn rfl<|d9<|c8<|f7 ?_
 obtain rfl:=si H
 exact rt hE []
def G2.l0 : Nat→Int→Int→Int→(List D9)→Int→P0
 | 0,_,_,_,_,_=>none
 | c + 1,d,e,g,a,b=>if b < (a.length : Int) then if 0≤b then ((B1.f c ((K0 a b).f0) ((K0 a b).f1) ((K0 a b).f2) ((K0 a b).f3)).bind fun h=>if h = true then G2.l0 c d e g a (wrap64 (b + 1)) else some false) else none else (P3.f d).bind fun i=>(if i = true then ((V8.f e g).bind fun j=>(if j = true then some (decide ((a.length : Int)≤10)) else some false)) else some false)
def G2.f (k : Nat) (a : Int) (b : Int) (c : Int) (d : List D9) : P0:=G2.l0 k a b c d 0
theorem G2.ok (H : G2.f k d e g i = some r) : j7 Tryz.prog 228 [] [.agg [.lit (.int .i64 d),.lit (.int .i64 e),.lit (.int .i64 g),.sl .o 4 (i.map X0)]] [] (.lit (.bool r)):=by
 refine u3 34 Tryz.func228 fun E hE=>?_
 rw [G2.f] at H
 refine d8<|c9<|k1 (K2 0) ?_
 refine rn rfl<|d9<|c8<|d8<|d8<|c9<|rn rfl<|d9<|c8<|j4 ?_
 refine lp1 (fun k=>G2.l0 k d e g i) (fun l=>⟨[(1,.box 0 0),(3,.lit (.int .i64 l))],[(0,.box 189 [.lit (.int .i64 d),.lit (.int .i64 e),.lit (.int .i64 g),.sl .o 4 (i.map X0)])]⟩) H (fun _ h=>aw hE [] h) (fun _ _=>G2.l0.eq_2 ..) fun s l t H u m=>?_
 refine d8<|d8<|c9<|rn rfl<|k0 (G3 v7) ?_
 refine rn rfl<|d9<|c8 ?_
 obtain ⟨c,H⟩|⟨c,H⟩:=oi H
 ·refine iT (decide_eq_true c)<|i9<|c8<|d8<|j4<|d8<|c9<|rn rfl ?_
  obtain ⟨n,H⟩:=i8 H
  refine k0 (iS n c) ?_
  refine rn rfl ?_
  obtain ⟨v,o,H⟩:=f6 H
  refine kC (cl (B1.ok o) []) ?_
  refine rn rfl<|d9<|c8 ?_
  obtain ⟨j,H⟩|⟨j,H⟩:=oi H
  ·refine iF (nF j)<|i9<|j6<|c8<|c9<|rn rfl<|d9<|l6 ?_
   exact aw hE [] (m (Nat.le_refl _) H)
  refine iT (nT (bF j))<|d8<|c9<|rn rfl<|d9<|c8<|f7<|l7<|f8<|f8<|l7<|f8 ?_
  obtain rfl:=si H
  exact rt hE []
 refine iF (decide_eq_false c)<|m6<|j5<|j5<|n7 rfl<|c8<|d8<|c9<|rn rfl ?_
 obtain ⟨w,p,H⟩:=f6 H
 refine kC (cl (P3.ok p) []) ?_
 refine rn rfl ?_
 obtain ⟨a,H⟩|⟨a,H⟩:=oi H
 ·refine kv (g1 a) (y8 1 1)<|kv (g1 a) B5<|kv (g1 a) (y8 2 2)<|kv (g1 a) B5 ?_
  obtain ⟨x,q,H⟩:=f6 H
  refine N5 (g1 a) (cl (V8.ok q) []) ?_
  refine k0 (o8 a) ?_
  refine rn rfl ?_
  obtain ⟨b,H⟩|⟨b,H⟩:=oi H
  ·refine kv (g1 b) (y8 3 3)<|kv (g1 b) B5<|kv (g1 b) (G3 v7)<|kv (g1 b) leq ?_
   refine k0 (o8 b) ?_
   refine rn rfl<|d9<|c8<|f7 ?_
   obtain rfl:=si H
   exact rt hE []
  iterate 4 refine kx (hT (bF b)) ?_
  refine k0 (n8 (bF b)) ?_
  refine rn rfl<|d9<|c8<|f7 ?_
  obtain rfl:=si H
  exact rt hE []
 iterate 5 refine kx (hT (bF a)) ?_
 refine k0 (n8 (bF a)) ?_
 refine rn rfl ?_
 iterate 4 refine kx (hT rfl) ?_
 refine k0 (n8 rfl) ?_
 refine rn rfl<|d9<|c8<|f7 ?_
 obtain rfl:=si H
 exact rt hE []
mutual
def s7.l0 : Nat→Int→ByteArray→Y49
 | 0,_,_=>none
 | c + 1,a,b=>if a > 9 then if (strOfNums ([IntKind.u8.wrap (wrap64 (48 + (a.tmod 10)))] : List Int)).size + b.size≤9223372036854775807 then s7.l0 c (wrap64 (a.tdiv 10)) ((strOfNums ([IntKind.u8.wrap (wrap64 (48 + (a.tmod 10)))] : List Int)) ++ b) else none else if (strOfNums ([IntKind.u8.wrap (wrap64 (48 + a))] : List Int)).size + b.size≤9223372036854775807 then some ((strOfNums ([IntKind.u8.wrap (wrap64 (48 + a))] : List Int)) ++ b) else none
def s7.j0 : Nat→Int→Y49
 | 0,_=>none
 | k3 + 1,d=>s7.l0 k3 d ByteArray.empty
end
def s7.f (k : Nat) (a : Int) : Y49:=if a < 0 then s7.j0 k 0 else s7.j0 k a
theorem s7.ok (H : s7.f k i = some r) : j7 Tryz.prog 229 [] [.lit (.int .i64 i)] [] (.lit (.string r)):=by
 refine u3 25 Tryz.func229 fun E hE=>?_
 rw [s7.f] at H
 refine d8<|c9<|rn rfl<|d9<|c8 ?_
 refine H0 (J:=Jc1 E 25 r k s7.j0 (fun d=>⟨[(0,.lit (.int .i64 d))],[]⟩)) ?_ ?_
 ·intro n e
  refine d8<|c9<|rn rfl<|d9<|c8 ?_
  obtain ⟨b,H⟩|⟨b,H⟩:=oi H
  ·refine iT (decide_eq_true b)<|c9<|rn rfl<|d9<|l6 ?_
   exact aw hE [] (e.u (Nat.le_refl _) H)
  refine iF (decide_eq_false b)<|i9<|l6 ?_
  exact aw hE [] (e.u (Nat.le_refl _) H)
 refine jc1 (fun _ _=>s7.j0.eq_2 ..) fun k3 d o H=>?_
 refine d8<|c9<|rn rfl<|d9<|c8<|d8<|j4 ?_
 refine V7 s7.l0 (fun a g=>⟨[(0,.lit (.int .i64 a)),(3,.lit (.string g))],[]⟩) H (fun _ h=>aw hE [] h) (fun _ _ _=>s7.l0.eq_2 ..) fun p a g q H s j=>?_
 refine d8<|d8<|c9<|rn rfl<|d9<|c8 ?_
 obtain ⟨c,H⟩|⟨c,H⟩:=oi H
 ·refine iT (decide_eq_true c)<|i9<|c8<|j4<|d8<|c9<|rn rfl<|k0 (rem (by decide : (10 : Int)≠0)) ?_
  refine rn rfl<|k0 (cnv .u8)<|k1 (u7 0 5 1 [.int .u8 0] (([IntKind.u8.wrap (wrap64 (48 + (a.tmod 10)))] : List Int).map (eI .u8)))<|k0 (cvB (.row rfl)) ?_
  refine rn rfl ?_
  obtain ⟨l,H⟩:=i8 H
  refine k0 (N4 l) ?_
  refine rn rfl<|d9<|c8<|c9<|rn rfl<|k0 (aE2 (by decide : (10 : Int)≠0)) ?_
  refine rn rfl<|d9<|j6<|l6 ?_
  exact aw hE [] (j (Nat.le_refl _) H)
 refine iF (decide_eq_false c)<|m6<|j5<|j5<|n7 rfl<|c8<|d8<|c9<|rn rfl<|k0 (cnv .u8)<|k1 (u7 1 5 1 [.int .u8 0] (([IntKind.u8.wrap (wrap64 (48 + a))] : List Int).map (eI .u8)))<|k0 (cvB (.row rfl)) ?_
 refine rn rfl ?_
 obtain ⟨m,H⟩:=i8 H
 refine k0 (N4 m) ?_
 refine rn rfl<|d9<|c8<|f7 ?_
 obtain rfl:=si H
 exact rt hE []
def ac0.f  : Y38:=some ([(⟨#[107,105,108,108]⟩ : ByteArray),(⟨#[116,114,97,112]⟩ : ByteArray),(⟨#[101,114,114]⟩ : ByteArray),(⟨#[116,114,97,99,101]⟩ : ByteArray),(⟨#[108,111,103]⟩ : ByteArray),(⟨#[97,108,108,111,119]⟩ : ByteArray)] : List ByteArray)
theorem ac0.ok (H : ac0.f = some r) : j7 Tryz.prog 299 [] [] [(0,.row 9 1 (r.map eT'))] (.row 0):=by
 refine u3 2 Tryz.func299 fun E hE=>?_
 rw [ac0.f] at H
 refine d8<|c9<|rn rfl<|d9<|c8<|d8<|c9<|k1 (u7 0 9 1 [.string .empty] (([(⟨#[107,105,108,108]⟩ : ByteArray),(⟨#[116,114,97,112]⟩ : ByteArray),(⟨#[101,114,114]⟩ : ByteArray),(⟨#[116,114,97,99,101]⟩ : ByteArray),(⟨#[108,111,103]⟩ : ByteArray),(⟨#[97,108,108,111,119]⟩ : ByteArray)] : List ByteArray).map eT')) ?_
 refine rn rfl<|d9<|c8<|f7 ?_
 obtain rfl:=si H
 exact rt hE []
def U3.f (a : Int) : Y49:=(M4.f a 0 5).bind fun c=>if c = true then (ac0.f).bind fun b=>(if 0≤a then (if a < (b.length : Int) then some (M0 ByteArray.empty b a) else none) else none) else some ByteArray.empty
theorem U3.ok (H : U3.f d = some r) : j7 Tryz.prog 287 [] [.lit (.int .i64 d)] [] (.lit (.string r)):=by
 refine u3 10 Tryz.func287 fun E hE=>?_
 rw [U3.f] at H
 refine d8<|c9<|rn rfl<|d9<|c8<|d8<|d8<|c9<|rn rfl ?_
 obtain ⟨h,e,H⟩:=f6 H
 refine kC (cl (M4.ok e) []) ?_
 refine rn rfl<|d9<|c8 ?_
 obtain ⟨a,H⟩|⟨a,H⟩:=oi H
 ·refine iF (nF a)<|i9<|c8<|d8<|c9 ?_
  obtain ⟨i,g,H⟩:=f6 H
  refine kC (cl (ac0.ok g) [0]) ?_
  refine rn rfl ?_
  obtain ⟨b,H⟩:=i8 H
  obtain ⟨c,H⟩:=i8 H
  refine k0 (iR b c)<|k0 (qL b c) ?_
  refine rn rfl<|d9<|c8<|f7 ?_
  obtain rfl:=si H
  exact rt hE []
 refine iT (nT (bF a))<|d8<|c9<|rn rfl<|d9<|c8<|f7<|f8 ?_
 obtain rfl:=si H
 exact rt hE []
def W1.f (k : Nat) (c : Int) (d : Int) : Y49:=(U3.f c).bind fun a=>(if a.size + (⟨#[32]⟩ : ByteArray).size≤9223372036854775807 then ((s7.f k d).bind fun b=>(if (a ++ (⟨#[32]⟩ : ByteArray)).size + b.size≤9223372036854775807 then some ((a ++ (⟨#[32]⟩ : ByteArray)) ++ b) else none)) else none)
theorem W1.ok (H : W1.f k a b = some r) : j7 Tryz.prog 230 [] [.lit (.int .i64 a),.lit (.int .i64 b)] [] (.lit (.string r)):=by
 refine u3 11 Tryz.func230 fun E hE=>?_
 rw [W1.f] at H
 refine d8<|c9<|rn rfl<|d9<|c8<|d8<|c9<|rn rfl ?_
 obtain ⟨h,c,H⟩:=f6 H
 refine kC (cl (U3.ok c) []) ?_
 obtain ⟨d,H⟩:=i8 H
 refine k0 (N4 d) ?_
 refine rn rfl ?_
 obtain ⟨i,e,H⟩:=f6 H
 refine kC (cl (s7.ok e) []) ?_
 obtain ⟨g,H⟩:=i8 H
 refine k0 (N4 g) ?_
 refine rn rfl<|d9<|c8<|f7 ?_
 obtain rfl:=si H
 exact rt hE []
def T6.f (k : Nat) (c : Int) (d : Int) : Y49:=(s7.f k c).bind fun a=>(if a.size + (⟨#[32,58,32]⟩ : ByteArray).size≤9223372036854775807 then ((s7.f k d).bind fun b=>(if (a ++ (⟨#[32,58,32]⟩ : ByteArray)).size + b.size≤9223372036854775807 then some ((a ++ (⟨#[32,58,32]⟩ : ByteArray)) ++ b) else none)) else none)
theorem T6.ok (H : T6.f k a b = some r) : j7 Tryz.prog 288 [] [.agg [.lit (.int .i64 a),.lit (.int .i64 b)]] [] (.lit (.string r)):=by
 refine u3 11 Tryz.func288 fun E hE=>?_
 rw [T6.f] at H
 refine d8<|c9<|k1 (K2 0) ?_
 refine rn rfl<|d9<|c8<|d8<|c9<|rn rfl ?_
 obtain ⟨h,c,H⟩:=f6 H
 refine kC (cl (s7.ok c) []) ?_
 obtain ⟨d,H⟩:=i8 H
 refine k0 (N4 d) ?_
 refine rn rfl ?_
 obtain ⟨i,e,H⟩:=f6 H
 refine kC (cl (s7.ok e) []) ?_
 obtain ⟨g,H⟩:=i8 H
 refine k0 (N4 g) ?_
 refine rn rfl<|ed<|c8<|f7 ?_
 obtain rfl:=si H
 exact rt hE []
def ag9.f  : Y38:=some ([ByteArray.empty,(⟨#[61,61]⟩ : ByteArray),(⟨#[33,61]⟩ : ByteArray),(⟨#[60]⟩ : ByteArray),(⟨#[60,61]⟩ : ByteArray),(⟨#[62]⟩ : ByteArray),(⟨#[62,61]⟩ : ByteArray)] : List ByteArray)
theorem ag9.ok (H : ag9.f = some r) : j7 Tryz.prog 289 [] [] [(0,.row 9 1 (r.map eT'))] (.row 0):=by
 refine u3 2 Tryz.func289 fun E hE=>?_
 rw [ag9.f] at H
 refine d8<|c9<|rn rfl<|d9<|c8<|d8<|c9<|k1 (u7 0 9 1 [.string .empty] (([ByteArray.empty,(⟨#[61,61]⟩ : ByteArray),(⟨#[33,61]⟩ : ByteArray),(⟨#[60]⟩ : ByteArray),(⟨#[60,61]⟩ : ByteArray),(⟨#[62]⟩ : ByteArray),(⟨#[62,61]⟩ : ByteArray)] : List ByteArray).map eT')) ?_
 refine rn rfl<|d9<|c8<|f7 ?_
 obtain rfl:=si H
 exact rt hE []
mutual
def o6.j1 : Nat→(List Int)→(List B9)→Int→Int→Int→ByteArray→Y49
 | 0,_,_,_,_,_,_=>none
 | r + 1,c,a,d,e,h,s=>if 0≤h then ((s7.f r (rd c h)).bind fun t=>(if s.size + t.size≤9223372036854775807 then o6.l0 r c a d e (s ++ t) (wrap64 (h + 1)) else none)) else none
def o6.l0 : Nat→(List Int)→(List B9)→Int→Int→ByteArray→Int→Y49
 | 0,_,_,_,_,_,_=>none
 | o + 1,c,a,d,e,m,h=>if h < (c.length : Int) then if h > 0 then (if m.size + (⟨#[32,44,32]⟩ : ByteArray).size≤9223372036854775807 then o6.j1 o c a d e h (m ++ (⟨#[32,44,32]⟩ : ByteArray)) else none) else o6.j1 o c a d e h m else o6.l1 o c a d e m 0
def o6.j2 : Nat→(List Int)→(List B9)→Int→Int→Int→ByteArray→Y49
 | 0,_,_,_,_,_,_=>none
 | n + 1,c,a,d,e,b,g=>if g.size + (⟨#[97,114,103,32]⟩ : ByteArray).size≤9223372036854775807 then ((s7.f n ((A4 a b).f0)).bind fun i=>(if (g ++ (⟨#[97,114,103,32]⟩ : ByteArray)).size + i.size≤9223372036854775807 then (if ((g ++ (⟨#[97,114,103,32]⟩ : ByteArray)) ++ i).size + (⟨#[32,38,32]⟩ : ByteArray).size≤9223372036854775807 then ((T6.f n ((A4 a b).f1.f0) ((A4 a b).f1.f1)).bind fun k=>(if (((g ++ (⟨#[97,114,103,32]⟩ : ByteArray)) ++ i) ++ (⟨#[32,38,32]⟩ : ByteArray)).size + k.size≤9223372036854775807 then (if ((((g ++ (⟨#[97,114,103,32]⟩ : ByteArray)) ++ i) ++ (⟨#[32,38,32]⟩ : ByteArray)) ++ k).size + (⟨#[32]⟩ : ByteArray).size≤9223372036854775807 then ((ag9.f).bind fun l=>(if 0≤((A4 a b).f2) then (if ((A4 a b).f2) < (l.length : Int) then (if (((((g ++ (⟨#[97,114,103,32]⟩ : ByteArray)) ++ i) ++ (⟨#[32,38,32]⟩ : ByteArray)) ++ k) ++ (⟨#[32]⟩ : ByteArray)).size + (M0 ByteArray.empty l ((A4 a b).f2)).size≤9223372036854775807 then (if ((((((g ++ (⟨#[97,114,103,32]⟩ : ByteArray)) ++ i) ++ (⟨#[32,38,32]⟩ : ByteArray)) ++ k) ++ (⟨#[32]⟩ : ByteArray)) ++ (M0 ByteArray.empty l ((A4 a b).f2))).size + (⟨#[32]⟩ : ByteArray).size≤9223372036854775807 then ((T6.f n ((A4 a b).f3.f0) ((A4 a b).f3.f1)).bind fun u=>(if (((((((g ++ (⟨#[97,114,103,32]⟩ : ByteArray)) ++ i) ++ (⟨#[32,38,32]⟩ : ByteArray)) ++ k) ++ (⟨#[32]⟩ : ByteArray)) ++ (M0 ByteArray.empty l ((A4 a b).f2))) ++ (⟨#[32]⟩ : ByteArray)).size + u.size≤9223372036854775807 then o6.l1 n c a d e ((((((((g ++ (⟨#[97,114,103,32]⟩ : ByteArray)) ++ i) ++ (⟨#[32,38,32]⟩ : ByteArray)) ++ k) ++ (⟨#[32]⟩ : ByteArray)) ++ (M0 ByteArray.empty l ((A4 a b).f2))) ++ (⟨#[32]⟩ : ByteArray)) ++ u) (wrap64 (b + 1)) else none)) else none) else none) else none) else none)) else none) else none)) else none) else none)) else none
def o6.l1 : Nat→(List Int)→(List B9)→Int→Int→ByteArray→Int→Y49
 | 0,_,_,_,_,_,_=>none
 | p + 1,c,a,d,e,j,b=>if b < (a.length : Int) then if 0≤b then if b = 0 then (if j.size + (⟨#[32,105,102,32]⟩ : ByteArray).size≤9223372036854775807 then o6.j2 p c a d e b (j ++ (⟨#[32,105,102,32]⟩ : ByteArray)) else none) else (if j.size + (⟨#[32,97,110,100,32]⟩ : ByteArray).size≤9223372036854775807 then o6.j2 p c a d e b (j ++ (⟨#[32,97,110,100,32]⟩ : ByteArray)) else none) else none else if j.size + (⟨#[32,100,111,32]⟩ : ByteArray).size≤9223372036854775807 then ((W1.f p d e).bind fun q=>(if (j ++ (⟨#[32,100,111,32]⟩ : ByteArray)).size + q.size≤9223372036854775807 then (if ((j ++ (⟨#[32,100,111,32]⟩ : ByteArray)) ++ q).size + (⟨#[32,59]⟩ : ByteArray).size≤9223372036854775807 then some (((j ++ (⟨#[32,100,111,32]⟩ : ByteArray)) ++ q) ++ (⟨#[32,59]⟩ : ByteArray)) else none) else none)) else none
def o6.j0 : Nat→(List Int)→(List B9)→Int→Int→ByteArray→Y49
 | 0,_,_,_,_,_=>none
 | v + 1,c,a,d,e,w=>o6.l0 v c a d e w 0
end
def o6.f (k : Nat) (a : List Int) (b : List B9) (c : Int) (d : Int) : Y49:=if (a.length : Int) = 0 then (if (⟨#[111,110,32]⟩ : ByteArray).size + (⟨#[97,110,121]⟩ : ByteArray).size≤9223372036854775807 then o6.j0 k a b c d ((⟨#[111,110,32]⟩ : ByteArray) ++ (⟨#[97,110,121]⟩ : ByteArray)) else none) else o6.j0 k a b c d (⟨#[111,110,32]⟩ : ByteArray)
theorem o6.ok (H : o6.f k b a c d = some r) : j7 Tryz.prog 231 [] [.agg [.sl .o 1 (b.map (eI .i64)),.sl .o 6 (a.map S9),.lit (.int .i64 c),.lit (.int .i64 d)]] [] (.lit (.string r)):=by
 refine u3 82 Tryz.func231 fun E hE=>?_
 rw [o6.f] at H
 refine d8<|c9<|k1 (K2 0) ?_
 refine rn rfl<|d9<|c8<|d8<|c9<|rn rfl<|d9<|c8 ?_
 refine H0 (J:=Jc1 E 82 r k (fun k=>o6.j0 k b a c d) (fun o=>⟨[(1,.box 0 0),(3,.lit (.string o))],[(0,.box 233 [.sl .o 1 (b.map (eI .i64)),.sl .o 6 (a.map S9),.lit (.int .i64 c),.lit (.int .i64 d)])]⟩)) ?_ ?_
 ·intro p q
  refine d8<|c9<|rn rfl<|k0 (G3 v7) ?_
  refine rn rfl<|d9<|c8 ?_
  obtain ⟨l,H⟩|⟨l,H⟩:=oi H
  ·refine iT (eT l)<|c9<|rn rfl ?_
   obtain ⟨B,H⟩:=i8 H
   refine k0 (N4 B) ?_
   refine rn rfl<|d9<|l6 ?_
   exact aw hE [] (q.u (Nat.le_refl _) H)
  refine iF (eF l)<|i9<|l6 ?_
  exact aw hE [] (q.u (Nat.le_refl _) H)
 refine jc1 (fun _ _=>o6.j0.eq_2 ..) fun a7 o a8 H=>?_
 refine d8<|d8<|c9<|rn rfl<|d9<|c8<|j4 ?_
 refine V7 (fun k=>o6.l0 k b a c d) (fun s g=>⟨[(1,.box 0 0),(3,.lit (.string s)),(4,.lit (.int .i64 g))],[(0,.box 233 [.sl .o 1 (b.map (eI .i64)),.sl .o 6 (a.map S9),.lit (.int .i64 c),.lit (.int .i64 d)])]⟩) H (fun _ h=>aw hE [] h) (fun _ _ _=>o6.l0.eq_2 ..) fun C s g a9 H aA D=>?_
 refine d8<|d8<|c9<|rn rfl<|k0 (G3 v7) ?_
 refine rn rfl<|d9<|c8 ?_
 obtain ⟨i,H⟩|⟨i,H⟩:=oi H
 ·refine iT (decide_eq_true i)<|i9<|c8<|d8<|j4 ?_
  refine H0 (J:=Jc1 E 82 r C (fun k=>o6.j1 k b a c d g) (fun t=>⟨[(1,.box 0 0),(3,.lit (.string t)),(4,.lit (.int .i64 g))],[(0,.box 233 [.sl .o 1 (b.map (eI .i64)),.sl .o 6 (a.map S9),.lit (.int .i64 c),.lit (.int .i64 d)])]⟩)) ?_ ?_
  ·intro p u
   refine d8<|c9<|rn rfl<|d9<|c8 ?_
   obtain ⟨m,H⟩|⟨m,H⟩:=oi H
   ·refine iT (decide_eq_true m)<|c9<|rn rfl ?_
    obtain ⟨F,H⟩:=i8 H
    refine k0 (N4 F) ?_
    refine rn rfl<|d9<|l6 ?_
    exact aw hE [] (u.u (Nat.le_refl _) H)
   refine iF (decide_eq_false m)<|i9<|l6 ?_
   exact aw hE [] (u.u (Nat.le_refl _) H)
  refine jc1 (fun _ _=>o6.j1.eq_2 ..) fun aB t aC H=>?_
  refine c9<|rn rfl ?_
  obtain ⟨G,H⟩:=i8 H
  refine k0 (iS G i) ?_
  refine rn rfl ?_
  obtain ⟨aD,I,H⟩:=f6 H
  refine kC (cl (s7.ok I) []) ?_
  obtain ⟨K,H⟩:=i8 H
  refine k0 (N4 K) ?_
  refine rn rfl<|d9<|j6<|c8<|c9<|rn rfl<|d9<|l6 ?_
  exact aw hE [] (D (by omega) H)
 refine iF (decide_eq_false i)<|m6<|j5<|j5<|n7 rfl<|c8<|d8<|d8<|c9<|rn rfl<|d9<|c8<|j4 ?_
 refine V7 (fun k=>o6.l1 k b a c d) (fun v e=>⟨[(1,.box 0 0),(3,.lit (.string v)),(5,.lit (.int .i64 e))],[(0,.box 233 [.sl .o 1 (b.map (eI .i64)),.sl .o 6 (a.map S9),.lit (.int .i64 c),.lit (.int .i64 d)])]⟩) H (fun _ h=>aw hE [] h) (fun _ _ _=>o6.l1.eq_2 ..) fun L v e aE H aF M=>?_
 refine d8<|d8<|c9<|rn rfl<|k0 (G3 v7) ?_
 refine rn rfl<|d9<|c8 ?_
 obtain ⟨j,H⟩|⟨j,H⟩:=oi H
 ·refine iT (decide_eq_true j)<|i9<|c8<|d8<|j4<|d8<|c9<|rn rfl ?_
  obtain ⟨N,H⟩:=i8 H
  refine k0 (iS N j) ?_
  refine rn rfl<|k1 (al 1) ?_
  refine rn rfl<|d9<|c8 ?_
  refine H0 (J:=Jc1 E 82 r L (fun k=>o6.j2 k b a c d e) (fun w=>⟨[(1,.box 0 0),(3,.lit (.string w)),(5,.lit (.int .i64 e)),(6,.box 1 0)],[(0,.box 233 [.sl .o 1 (b.map (eI .i64)),.sl .o 6 (a.map S9),.lit (.int .i64 c),.lit (.int .i64 d)]),(1,.box 273 [.lit (.int .i64 ((A4 a e).f0)),.lit (.int .i64 ((A4 a e).f1.f0)),.lit (.int .i64 ((A4 a e).f1.f1)),.lit (.int .i64 ((A4 a e).f2)),.lit (.int .i64 ((A4 a e).f3.f0)),.lit (.int .i64 ((A4 a e).f3.f1))])]⟩)) ?_ ?_
  ·intro p x
   refine d8<|c9<|rn rfl<|d9<|c8 ?_
   obtain ⟨n,H⟩|⟨n,H⟩:=oi H
   ·refine iT (eT n)<|c9<|rn rfl ?_
    obtain ⟨O,H⟩:=i8 H
    refine k0 (N4 O) ?_
    refine rn rfl<|d9<|l6 ?_
    exact aw hE [] (x.u (Nat.le_refl _) H)
   refine iF (eF n)<|c9<|rn rfl ?_
   obtain ⟨P,H⟩:=i8 H
   refine k0 (N4 P) ?_
   refine rn rfl<|d9<|l6 ?_
   exact aw hE [] (x.u (Nat.le_refl _) H)
  refine jc1 (fun _ _=>o6.j2.eq_2 ..) fun aG w aH H=>?_
  refine c9<|rn rfl ?_
  obtain ⟨Q,H⟩:=i8 H
  refine k0 (N4 Q) ?_
  refine rn rfl ?_
  obtain ⟨aI,R,H⟩:=f6 H
  refine kC (cl (s7.ok R) []) ?_
  obtain ⟨T,H⟩:=i8 H
  refine k0 (N4 T) ?_
  obtain ⟨U,H⟩:=i8 H
  refine k0 (N4 U) ?_
  refine rn rfl ?_
  obtain ⟨aJ,V,H⟩:=f6 H
  refine kC (cl (T6.ok V) []) ?_
  obtain ⟨W,H⟩:=i8 H
  refine k0 (N4 W) ?_
  obtain ⟨X,H⟩:=i8 H
  refine k0 (N4 X) ?_
  obtain ⟨aK,Y,H⟩:=f6 H
  refine kC (cl (ag9.ok Y) [2]) ?_
  refine rn rfl ?_
  obtain ⟨y,H⟩:=i8 H
  obtain ⟨z,H⟩:=i8 H
  refine k0 (iR y z)<|k0 (qL y z) ?_
  obtain ⟨Z,H⟩:=i8 H
  refine k0 (N4 Z) ?_
  obtain ⟨a0,H⟩:=i8 H
  refine k0 (N4 a0) ?_
  refine rn rfl ?_
  obtain ⟨aL,a1,H⟩:=f6 H
  refine kC (cl (T6.ok a1) []) ?_
  obtain ⟨a2,H⟩:=i8 H
  refine k0 (N4 a2) ?_
  refine rn rfl<|ed<|j6<|c8<|c9<|rn rfl<|d9<|l6 ?_
  exact aw hE [] (M (by omega) H)
 refine iF (decide_eq_false j)<|m6<|j5<|j5<|n7 rfl<|c8<|d8<|c9<|rn rfl ?_
 obtain ⟨a3,H⟩:=i8 H
 refine k0 (N4 a3) ?_
 refine rn rfl ?_
 obtain ⟨aM,a4,H⟩:=f6 H
 refine kC (cl (W1.ok a4) []) ?_
 obtain ⟨a5,H⟩:=i8 H
 refine k0 (N4 a5) ?_
 obtain ⟨a6,H⟩:=i8 H
 refine k0 (N4 a6) ?_
 refine rn rfl<|d9<|c8<|f7 ?_
 obtain rfl:=si H
 exact rt hE []
def F4.l0 : Nat→Int→Int→Int→(List D9)→ByteArray→Int→Y39
 | 0,_,_,_,_,_,_=>none
 | d + 1,g,h,i,b,c,a=>if a < (b.length : Int) then if c.size + (⟨#[32]⟩ : ByteArray).size≤9223372036854775807 then (if 0≤a then ((o6.f d ((K0 b a).f0) ((K0 b a).f1) ((K0 b a).f2) ((K0 b a).f3)).bind fun e=>(if (c ++ (⟨#[32]⟩ : ByteArray)).size + e.size≤9223372036854775807 then F4.l0 d g h i b ((c ++ (⟨#[32]⟩ : ByteArray)) ++ e) (wrap64 (a + 1)) else none)) else none) else none else if (c.size : Int) > 1200 then some (ByteArray.empty,false) else some (c,true)
def F4.f (k : Nat) (b : Int) (c : Int) (d : Int) (g : List D9) : Y39:=(G2.f k b c d g).bind fun h=>if h = true then (s7.f k b).bind fun a=>(if (⟨#[97,114,99,104,32]⟩ : ByteArray).size + a.size≤9223372036854775807 then (if ((⟨#[97,114,99,104,32]⟩ : ByteArray) ++ a).size + (⟨#[32,59,32,100,101,102,97,117,108,116,32]⟩ : ByteArray).size≤9223372036854775807 then ((W1.f k c d).bind fun e=>(if (((⟨#[97,114,99,104,32]⟩ : ByteArray) ++ a) ++ (⟨#[32,59,32,100,101,102,97,117,108,116,32]⟩ : ByteArray)).size + e.size≤9223372036854775807 then (if ((((⟨#[97,114,99,104,32]⟩ : ByteArray) ++ a) ++ (⟨#[32,59,32,100,101,102,97,117,108,116,32]⟩ : ByteArray)) ++ e).size + (⟨#[32,59]⟩ : ByteArray).size≤9223372036854775807 then F4.l0 k b c d g (((((⟨#[97,114,99,104,32]⟩ : ByteArray) ++ a) ++ (⟨#[32,59,32,100,101,102,97,117,108,116,32]⟩ : ByteArray)) ++ e) ++ (⟨#[32,59]⟩ : ByteArray)) 0 else none) else none)) else none) else none) else some (ByteArray.empty,false)
theorem F4.ok (H : F4.f k b c d e = some r) : j7 Tryz.prog 182 [] [.agg [.lit (.int .i64 b),.lit (.int .i64 c),.lit (.int .i64 d),.sl .o 4 (e.map X0)]] [] (.tup [.lit (.string r.1),.lit (.bool r.2)]):=by
 refine u3 41 Tryz.func182 fun E hE=>?_
 rw [F4.f] at H
 refine d8<|c9<|k1 (K2 0) ?_
 refine rn rfl<|d9<|c8<|d8<|d8<|c9<|rn rfl ?_
 obtain ⟨z,m,H⟩:=f6 H
 refine kC (cl (G2.ok m) []) ?_
 refine rn rfl<|d9<|c8 ?_
 obtain ⟨g,H⟩|⟨g,H⟩:=oi H
 ·refine iF (nF g)<|i9<|c8<|d8<|c9<|rn rfl ?_
  obtain ⟨B,n,H⟩:=f6 H
  refine kC (cl (s7.ok n) []) ?_
  obtain ⟨o,H⟩:=i8 H
  refine k0 (N4 o) ?_
  obtain ⟨p,H⟩:=i8 H
  refine k0 (N4 p) ?_
  refine rn rfl ?_
  obtain ⟨C,q,H⟩:=f6 H
  refine kC (cl (W1.ok q) []) ?_
  obtain ⟨s,H⟩:=i8 H
  refine k0 (N4 s) ?_
  obtain ⟨t,H⟩:=i8 H
  refine k0 (N4 t) ?_
  refine rn rfl<|ed<|c8<|d8<|d8<|c9<|rn rfl<|d9<|c8<|j4 ?_
  refine V7 (fun k=>F4.l0 k b c d e) (fun j l=>⟨[(1,.box 0 0),(4,.lit (.string j)),(5,.lit (.int .i64 l))],[(0,.box 189 [.lit (.int .i64 b),.lit (.int .i64 c),.lit (.int .i64 d),.sl .o 4 (e.map X0)])]⟩) H (fun _ h=>aw hE [] h) (fun _ _ _=>F4.l0.eq_2 ..) fun D j l F H G u=>?_
  refine d8<|d8<|c9<|rn rfl<|k0 (G3 v7) ?_
  refine rn rfl<|d9<|c8 ?_
  obtain ⟨a,H⟩|⟨a,H⟩:=oi H
  ·refine iT (decide_eq_true a)<|i9<|c8<|d8<|j4<|c9<|rn rfl ?_
   obtain ⟨v,H⟩:=i8 H
   refine k0 (N4 v) ?_
   refine rn rfl ?_
   obtain ⟨w,H⟩:=i8 H
   refine k0 (iS w a) ?_
   refine rn rfl ?_
   obtain ⟨I,x,H⟩:=f6 H
   refine kC (cl (o6.ok x) []) ?_
   obtain ⟨y,H⟩:=i8 H
   refine k0 (N4 y) ?_
   refine rn rfl<|d9<|j6<|c8<|c9<|rn rfl<|d9<|l6 ?_
   exact aw hE [] (u (Nat.le_refl _) H)
  refine iF (decide_eq_false a)<|m6<|j5<|j5<|n7 rfl<|c8<|d8<|d8<|c9<|rn rfl<|d9<|c8 ?_
  obtain ⟨i,H⟩|⟨i,H⟩:=oi H
  ·refine iT (decide_eq_true i)<|d8<|c9<|rn rfl<|d9<|c8<|f7<|f8 ?_
   obtain rfl:=si H
   exact rt hE []
  refine iF (decide_eq_false i)<|i9<|c8<|d8<|c9<|rn rfl<|d9<|c8<|f7 ?_
  obtain rfl:=si H
  exact rt hE []
 refine iT (nT (bF g))<|d8<|c9<|rn rfl<|d9<|c8<|f7<|f8 ?_
 obtain rfl:=si H
 exact rt hE []
def V6.f (k : Nat) (d : List Int) (e : Int) (g : Int) : Y22:=(L9.f d e g 2).bind fun a=>if a.1 = true then ((R8.f a.2.1 a.2.2.1 a.2.2.2 ([(⟨#[97,114,99,104,32,54,50,32,59,32,100,101,102,97,117,108,116,32,108,111,103,32,59]⟩ : ByteArray),(⟨#[97,114,99,104,32,54,50,32,59,32,100,101,102,97,117,108,116,32,97,108,108,111,119,32,59,32,111,110,32,114,101,97,100,32,44,32,119,114,105,116,101,32,44,32,111,112,101,110,32,100,111,32,108,111,103,32,59]⟩ : ByteArray),(⟨#[97,114,99,104,32,54,50,32,59,32,100,101,102,97,117,108,116,32,108,111,103,32,59,32,111,110,32,101,120,101,99,32,100,111,32,107,105,108,108,32,59]⟩ : ByteArray),(⟨#[97,114,99,104,32,54,50,32,59,32,100,101,102,97,117,108,116,32,97,108,108,111,119,32,59,32,111,110,32,97,110,121,32,105,102,32,97,114,103,32,48,32,38,32,49,32,61,61,32,49,32,100,111,32,108,111,103,32,59]⟩ : ByteArray)] : List ByteArray)).bind fun c=>some (c.1,c.2.1,c.2.2.1,c.2.2.2)) else (B8.f k a.2.1 a.2.2.1 a.2.2.2).bind fun b=>((F4.f k b.1 b.2.1 b.2.2.1 b.2.2.2.1).bind fun h=>some (h.1,b.2.2.2.2.1,b.2.2.2.2.2.1,b.2.2.2.2.2.2))
theorem V6.ok (H : V6.f k b c d = some r) : j7 Tryz.prog 113 [(0,.box 173 [.sl .u 1 (b.map (eI .u8)),.lit (.int .i64 c),.lit (.int .i64 d)])] [.box 0 0] [(0,.box 173 [.sl .u 1 (r.2.1.map (eI .u8)),.lit (.int .i64 r.2.2.1),.lit (.int .i64 r.2.2.2)])] (.lit (.string r.1)):=by
 refine u3 17 Tryz.func113 fun E hE=>?_
 rw [V6.f] at H
 refine d8<|c9<|rn rfl<|d9<|c8<|d8<|d8<|c9<|rn rfl ?_
 obtain ⟨j,e,H⟩:=f6 H
 refine kC (cl (L9.ok e) [0] .u)<|d9<|c8 ?_
 obtain ⟨a,H⟩|⟨a,H⟩:=oi H
 ·refine iT a<|d8<|c9<|rn rfl<|k1 (u7 1 9 1 [.string .empty] (([(⟨#[97,114,99,104,32,54,50,32,59,32,100,101,102,97,117,108,116,32,108,111,103,32,59]⟩ : ByteArray),(⟨#[97,114,99,104,32,54,50,32,59,32,100,101,102,97,117,108,116,32,97,108,108,111,119,32,59,32,111,110,32,114,101,97,100,32,44,32,119,114,105,116,101,32,44,32,111,112,101,110,32,100,111,32,108,111,103,32,59]⟩ : ByteArray),(⟨#[97,114,99,104,32,54,50,32,59,32,100,101,102,97,117,108,116,32,108,111,103,32,59,32,111,110,32,101,120,101,99,32,100,111,32,107,105,108,108,32,59]⟩ : ByteArray),(⟨#[97,114,99,104,32,54,50,32,59,32,100,101,102,97,117,108,116,32,97,108,108,111,119,32,59,32,111,110,32,97,110,121,32,105,102,32,97,114,103,32,48,32,38,32,49,32,61,61,32,49,32,100,111,32,108,111,103,32,59]⟩ : ByteArray)] : List ByteArray).map eT')) ?_
  obtain ⟨l,g,H⟩:=f6 H
  refine kC (cl (R8.ok g) [0] .u) ?_
  refine rn rfl<|d9<|c8<|f7<|f8 ?_
  obtain rfl:=si H
  exact rt hE []
 refine iF (bF a)<|i9<|c8<|d8<|c9<|rn rfl ?_
 obtain ⟨m,h,H⟩:=f6 H
 refine kC (cl (B8.ok h) [0,2] .u) ?_
 obtain ⟨n,i,H⟩:=f6 H
 refine kC (cl (F4.ok i) []) ?_
 refine rn rfl<|d9<|c8<|d8<|c9<|rn rfl<|d9<|c8<|f7 ?_
 obtain rfl:=si H
 exact rt hE []
end Go.Proofs.YtahmbcgolnplgaaGreat.PFnNoHoles
