import Derived.Test.YtahmbcgolnplgaaGreatPFnNoHolesx3
set_option linter.unusedVariables false
set_option linter.unusedSimpArgs false
set_option autoImplicit true
set_option relaxedAutoImplicit true
set_option maxRecDepth 100000
set_option maxHeartbeats 4000000
namespace Go.Proofs.YtahmbcgolnplgaaGreat.PFnNoHoles
open Go Go.RowKit Go.Proofs.YtahmbcgolnplgaaGreatA
def J1.f (b : List C1) (a : Int) (c : Bool) : Y24:=if c = true then some (false,b,a,c) else (if a < (b.length : Int) then (if 0≤a then some (((am2 b a).f0) == 2,b,a,c) else none) else some (false,b,a,c))
theorem J1.ok (H : J1.f d e g = some r) : j7 Tryz.prog 259 [(0,.box 227 [.row 1,.lit (.int .i64 e),.lit (.bool g)]),(1,.row 266 3 (d.map J9))] [.box 0 0] [(0,.box 227 [.row 1,.lit (.int .i64 r.2.2.1),.lit (.bool r.2.2.2)]),(1,.row 266 3 (r.2.1.map J9))] (.lit (.bool r.1)):=by
 refine u3 34 Tryz.func259 fun E hE=>?_
 rw [J1.f] at H
 refine d8<|c9<|rn rfl<|d9<|c8<|d8<|c9<|rn rfl ?_
 obtain ⟨b,H⟩|⟨b,H⟩:=oi H
 ·iterate 10 refine kx (hT (nF b)) ?_
  refine k0 (n8 (nF b)) ?_
  refine rn rfl ?_
  iterate 12 refine kx (hT rfl) ?_
  refine k0 (n8 rfl) ?_
  refine rn rfl<|ed<|c8<|f7 ?_
  obtain rfl:=si H
  exact rt hE []
 refine kv (g1 (nT (bF b))) mv<|kv (g1 (nT (bF b))) an3<|kv (g1 (nT (bF b))) (y8 1 1)<|kv (g1 (nT (bF b))) B5<|kv (g1 (nT (bF b))) mv<|kv (g1 (nT (bF b))) an3<|kv (g1 (nT (bF b))) (y8 0 0)<|kv (g1 (nT (bF b))) B5<|kv (g1 (nT (bF b))) (lnR v7)<|kv (g1 (nT (bF b))) lss ?_
 refine k0 (o8 (nT (bF b))) ?_
 refine rn rfl ?_
 obtain ⟨a,H⟩|⟨a,H⟩:=oi H
 ·refine kv (g1 (decide_eq_true a)) mv<|kv (g1 (decide_eq_true a)) an3<|kv (g1 (decide_eq_true a)) (y8 0 0)<|kv (g1 (decide_eq_true a)) B5<|kv (g1 (decide_eq_true a)) mv<|kv (g1 (decide_eq_true a)) an3<|kv (g1 (decide_eq_true a)) (y8 1 1)<|kv (g1 (decide_eq_true a)) B5 ?_
  obtain ⟨c,H⟩:=i8 H
  refine kv (g1 (decide_eq_true a)) (iR c a)<|kv (g1 (decide_eq_true a)) (faE 0 0)<|kv (g1 (decide_eq_true a)) (qL c a)<|kv (g1 (decide_eq_true a)) eql ?_
  refine k0 (o8 (decide_eq_true a)) ?_
  refine rn rfl<|ed<|c8<|f7 ?_
  obtain rfl:=si H
  exact rt hE []
 iterate 12 refine kx (hT (decide_eq_false a)) ?_
 refine k0 (n8 (decide_eq_false a)) ?_
 refine rn rfl<|ed<|c8<|f7 ?_
 obtain rfl:=si H
 exact rt hE []
def D2.f (b : List C1) (c : Int) (d : Bool) : Y25:=(J1.f b c d).bind fun a=>if a.1 = true then if 0≤(wrap64 ((wrap64 (a.2.2.1 + 1)) - 1)) then (if (wrap64 ((wrap64 (a.2.2.1 + 1)) - 1)) < (a.2.1.length : Int) then some ((am2 a.2.1 (wrap64 ((wrap64 (a.2.2.1 + 1)) - 1))).f2,a.2.1,wrap64 (a.2.2.1 + 1),a.2.2.2) else none) else none else some (0,a.2.1,a.2.2.1,true)
theorem D2.ok (H : D2.f d e g = some r) : j7 Tryz.prog 208 [(0,.box 227 [.row 1,.lit (.int .i64 e),.lit (.bool g)]),(1,.row 266 3 (d.map J9))] [.box 0 0] [(0,.box 227 [.row 1,.lit (.int .i64 r.2.2.1),.lit (.bool r.2.2.2)]),(1,.row 266 3 (r.2.1.map J9))] (.lit (.int .i64 r.1)):=by
 refine u3 28 Tryz.func208 fun E hE=>?_
 rw [D2.f] at H
 refine d8<|c9<|rn rfl<|d9<|c8<|d8<|d8<|c9<|rn rfl ?_
 obtain ⟨i,h,H⟩:=f6 H
 refine kC (cl (J1.ok h) [0,1]) ?_
 refine rn rfl<|d9<|c8 ?_
 obtain ⟨a,H⟩|⟨a,H⟩:=oi H
 ·refine iF (nF a)<|i9<|c8<|d8<|c9<|rn rfl<|d9<|c8<|d8<|c9<|rn rfl ?_
  obtain ⟨b,H⟩:=i8 H
  obtain ⟨c,H⟩:=i8 H
  refine k0 (iR b c) ?_
  refine rn rfl<|k0 (qL b c) ?_
  refine rn rfl<|ed<|c8<|f7 ?_
  obtain rfl:=si H
  exact rt hE []
 refine iT (nT (bF a))<|d8<|c9<|rn rfl<|d9<|c8<|d8<|c9<|rn rfl<|d9<|c8<|f7<|f8 ?_
 obtain rfl:=si H
 exact rt hE []
def ac6.f (a : Int) : Y49:=(j8.f a 0 5).bind fun b=>if b = true then if 0≤a then (if a < (([(⟨#[107,105,108,108]⟩ : ByteArray),(⟨#[116,114,97,112]⟩ : ByteArray),(⟨#[101,114,114]⟩ : ByteArray),(⟨#[116,114,97,99,101]⟩ : ByteArray),(⟨#[108,111,103]⟩ : ByteArray),(⟨#[97,108,108,111,119]⟩ : ByteArray)] : List ByteArray).length : Int) then some (M0 ByteArray.empty ([(⟨#[107,105,108,108]⟩ : ByteArray),(⟨#[116,114,97,112]⟩ : ByteArray),(⟨#[101,114,114]⟩ : ByteArray),(⟨#[116,114,97,99,101]⟩ : ByteArray),(⟨#[108,111,103]⟩ : ByteArray),(⟨#[97,108,108,111,119]⟩ : ByteArray)] : List ByteArray) a) else none) else none else some ByteArray.empty
theorem ac6.ok (H : ac6.f d = some r) : j7 Tryz.prog 316 [] [.lit (.int .i64 d)] [] (.lit (.string r)):=by
 refine u3 10 Tryz.func316 fun E hE=>?_
 rw [ac6.f] at H
 refine d8<|c9<|rn rfl<|d9<|c8<|d8<|d8<|c9<|rn rfl ?_
 obtain ⟨g,e,H⟩:=f6 H
 refine kC (cl (j8.ok e) []) ?_
 refine rn rfl<|d9<|c8 ?_
 obtain ⟨a,H⟩|⟨a,H⟩:=oi H
 ·refine iF (nF a)<|i9<|c8<|d8<|c9<|k1 (u7 0 9 1 [.string .empty] (([(⟨#[107,105,108,108]⟩ : ByteArray),(⟨#[116,114,97,112]⟩ : ByteArray),(⟨#[101,114,114]⟩ : ByteArray),(⟨#[116,114,97,99,101]⟩ : ByteArray),(⟨#[108,111,103]⟩ : ByteArray),(⟨#[97,108,108,111,119]⟩ : ByteArray)] : List ByteArray).map eT')) ?_
  refine rn rfl ?_
  obtain ⟨b,H⟩:=i8 H
  obtain ⟨c,H⟩:=i8 H
  refine k0 (iR b c)<|k0 (qL b c) ?_
  refine rn rfl<|d9<|c8<|f7 ?_
  obtain rfl:=si H
  exact rt hE []
 refine iT (nT (bF a))<|d8<|c9<|rn rfl<|d9<|c8<|f7<|f8 ?_
 obtain rfl:=si H
 exact rt hE []
def K5.l0 : Nat→(List ByteArray)→Int→Y38
 | 0,_,_=>none
 | d + 1,a,b=>if b≤5 then (ac6.f b).bind fun c=>(if a.length + ([c] : List ByteArray).length < 8796093022208 then K5.l0 d (a ++ ([c] : List ByteArray)) (wrap64 (b + 1)) else none) else some a
def K5.f (k : Nat)  : Y38:=K5.l0 k ([] : List ByteArray) 0
theorem K5.ok (H : K5.f k = some r) : j7 Tryz.prog 261 [] [] [(0,.row 9 1 (r.map eT'))] (.row 0):=by
 refine u3 14 Tryz.func261 fun E hE=>?_
 rw [K5.f] at H
 refine d8<|c9<|rn rfl<|d9<|c8<|d8<|c9<|k1 (u7 0 9 1 [.string .empty] (([] : List ByteArray).map eT')) ?_
 refine rn rfl<|d9<|c8<|d8<|d8<|c9<|rn rfl<|d9<|c8<|j4 ?_
 refine V7 K5.l0 (fun a c=>⟨[(1,.row 0),(2,.lit (.int .i64 c))],[(0,.row 9 1 (a.map eT'))]⟩) H (fun _ h=>aw hE [] h) (fun _ _ _=>K5.l0.eq_2 ..) fun j a c l H m e=>?_
 refine d8<|d8<|c9<|rn rfl<|d9<|c8 ?_
 obtain ⟨b,H⟩|⟨b,H⟩:=oi H
 ·refine iT (decide_eq_true b)<|i9<|c8<|d8<|j4<|c9<|rn rfl ?_
  obtain ⟨d,g,H⟩:=f6 H
  refine kC (cl (ac6.ok g) [])<|k1 (u7 1 9 1 [.string .empty] (([d] : List ByteArray).map eT')) ?_
  obtain ⟨i,H⟩:=i8 H
  refine k3 (D7 2 9 1 16 [.string .empty] ((a ++ ([d] : List ByteArray)).map eT') (.row rfl) (D8 i rfl) z7) ?_
  refine rn rfl<|d9<|j6<|c8<|c9<|rn rfl<|d9<|l6 ?_
  exact aw hE [(0,2)] (e (Nat.le_refl _) H)
 refine iF (decide_eq_false b)<|m6<|j5<|j5<|n7 rfl<|c8<|d8<|c9<|rn rfl<|d9<|c8<|f7 ?_
 obtain rfl:=si H
 exact rt hE []
def u4.l0 : Nat→(List ByteArray)→ByteArray→Int→Y55
 | 0,_,_,_=>none
 | d + 1,b,c,a=>if a < (b.length : Int) then if 0≤a then if (c.toList == (M0 ByteArray.empty b a).toList) = true then some a else u4.l0 d b c (wrap64 (a + 1)) else none else some (-1)
def u4.f (k : Nat) (a : List ByteArray) (b : ByteArray) : Y55:=u4.l0 k a b 0
theorem u4.ok (H : u4.f k a c = some r) : j7 Tryz.prog 315 [] [.sl .o 1 (a.map eT'),.lit (.string c)] [] (.lit (.int .i64 r)):=by
 refine u3 19 Tryz.func315 fun E hE=>?_
 rw [u4.f] at H
 refine d8<|c9<|rn rfl<|d9<|c8<|d8<|d8<|c9<|rn rfl<|k0 (G3 v7) ?_
 refine rn rfl<|d9<|c8<|j4 ?_
 refine lp1 (fun k=>u4.l0 k a c) (fun e=>⟨[(0,.sl .o 1 (a.map eT')),(1,.lit (.string c)),(7,.lit (.int .i64 (a.length : Int))),(8,.lit (.int .i64 e))],[]⟩) H (fun _ h=>aw hE [] h) (fun _ _=>u4.l0.eq_2 ..) fun j e l H m g=>?_
 refine d8<|c9<|rn rfl<|d9<|c8<|d8 ?_
 obtain ⟨b,H⟩|⟨b,H⟩:=oi H
 ·refine iT (decide_eq_true b)<|i9<|c8<|d8<|j4<|d8<|c9<|rn rfl<|d9<|c8<|d8<|c9<|rn rfl ?_
  obtain ⟨i,H⟩:=i8 H
  refine k0 (iS i b) ?_
  refine rn rfl<|d9<|c8 ?_
  obtain ⟨d,H⟩|⟨d,H⟩:=oi H
  ·refine iT d<|d8<|c9<|rn rfl<|d9<|c8<|f7<|l7<|f8<|f8<|l7<|f8 ?_
   obtain rfl:=si H
   exact rt hE []
  refine iF (bF d)<|i9<|j6<|c8<|c9<|rn rfl<|d9<|l6 ?_
  exact aw hE [] (g (Nat.le_refl _) H)
 refine iF (decide_eq_false b)<|m6<|j5<|j5<|n7 rfl<|c8<|d8<|c9<|rn rfl<|d9<|c8<|f7 ?_
 obtain rfl:=si H
 exact rt hE []
def C0.j0 : Nat→(List C1)→Int→Bool→(List ByteArray)→Bool→Y25
 | 0,_,_,_,_,_=>none
 | d + 1,b,a,h,e,g=>if g = true then some ((-1),b,a,true) else if 0≤(wrap64 ((wrap64 (a + 1)) - 1)) then (if (wrap64 ((wrap64 (a + 1)) - 1)) < (b.length : Int) then ((u4.f d e ((am2 b (wrap64 ((wrap64 (a + 1)) - 1))).f1)).bind fun c=>some (c,b,wrap64 (a + 1),decide (c < 0))) else none) else none
def C0.f (k : Nat) (b : List C1) (a : Int) (c : Bool) (d : List ByteArray) : Y25:=if c = true then C0.j0 k b a c d true else (if a ≥ (b.length : Int) then C0.j0 k b a c d true else (if 0≤a then (if a < (b.length : Int) then C0.j0 k b a c d (((am2 b a).f0) != 1) else none) else none))
theorem C0.ok (H : C0.f k c d e g = some r) : j7 Tryz.prog 260 [(0,.box 227 [.row 1,.lit (.int .i64 d),.lit (.bool e)]),(1,.row 266 3 (c.map J9))] [.box 0 0,.sl .o 1 (g.map eT')] [(0,.box 227 [.row 1,.lit (.int .i64 r.2.2.1),.lit (.bool r.2.2.2)]),(1,.row 266 3 (r.2.1.map J9))] (.lit (.int .i64 r.1)):=by
 refine u3 66 Tryz.func260 fun E hE=>?_
 rw [C0.f] at H
 refine d8<|c9<|rn rfl<|d9<|c8<|d8 ?_
 refine H0 (J:=Jc1 E 66 r k (fun k=>C0.j0 k c d e g) (fun j=>⟨[(0,.box 0 0),(1,.sl .o 1 (g.map eT')),(35,.lit (.bool j))],[(0,.box 227 [.row 1,.lit (.int .i64 d),.lit (.bool e)]),(1,.row 266 3 (c.map J9))]⟩)) ?_ ?_
 ·intro q h
  refine c9<|rn rfl ?_
  obtain ⟨b,H⟩|⟨b,H⟩:=oi H
  ·iterate 10 refine kx (hF b) ?_
   refine k0 (o8 b) ?_
   refine rn rfl ?_
   iterate 12 refine kx (hF rfl) ?_
   refine k0 (o8 rfl)<|ed<|l6 ?_
   exact aw hE [] (h.u (Nat.le_refl _) H)
  refine kv (g1 (bF b)) mv<|kv (g1 (bF b)) an3<|kv (g1 (bF b)) (y8 1 1)<|kv (g1 (bF b)) B5<|kv (g1 (bF b)) mv<|kv (g1 (bF b)) an3<|kv (g1 (bF b)) (y8 0 0)<|kv (g1 (bF b)) B5<|kv (g1 (bF b)) (lnR v7)<|kv (g1 (bF b)) geq ?_
  refine k0 (n8 (bF b)) ?_
  refine rn rfl ?_
  obtain ⟨a,H⟩|⟨a,H⟩:=oi H
  ·iterate 12 refine kx (hF (decide_eq_true a)) ?_
   refine k0 (o8 (decide_eq_true a))<|ed<|l6 ?_
   exact aw hE [] (h.u (Nat.le_refl _) H)
  refine kv (g1 (decide_eq_false a)) mv<|kv (g1 (decide_eq_false a)) an3<|kv (g1 (decide_eq_false a)) (y8 0 0)<|kv (g1 (decide_eq_false a)) B5<|kv (g1 (decide_eq_false a)) mv<|kv (g1 (decide_eq_false a)) an3<|kv (g1 (decide_eq_false a)) (y8 1 1)<|kv (g1 (decide_eq_false a)) B5 ?_
  obtain ⟨l,H⟩:=i8 H
  obtain ⟨m,H⟩:=i8 H
  refine kv (g1 (decide_eq_false a)) (iR l m)<|kv (g1 (decide_eq_false a)) (faE 0 0)<|kv (g1 (decide_eq_false a)) (qL l m)<|kv (g1 (decide_eq_false a)) neq ?_
  refine k0 (n8 (decide_eq_false a))<|ed<|l6 ?_
  exact aw hE [] (h.u (Nat.le_refl _) H)
 refine jc1 (fun _ _=>C0.j0.eq_2 ..) fun s j t H=>?_
 obtain ⟨i,H⟩|⟨i,H⟩:=oi H
 ·refine iT i<|d8<|c9<|rn rfl<|d9<|c8<|d8<|c9<|rn rfl<|d9<|c8<|f7<|f8 ?_
  obtain rfl:=si H
  exact rt hE []
 refine iF (bF i)<|i9<|c8<|d8<|c9<|rn rfl<|d9<|c8<|d8<|c9<|rn rfl ?_
 obtain ⟨n,H⟩:=i8 H
 obtain ⟨o,H⟩:=i8 H
 refine k0 (iR n o) ?_
 refine rn rfl<|k0 (qL n o) ?_
 obtain ⟨u,p,H⟩:=f6 H
 refine kC (cl (u4.ok p) []) ?_
 refine rn rfl<|ed<|c8<|d8<|c9<|rn rfl<|d9<|c8<|d8<|c9<|rn rfl<|d9<|c8<|f7 ?_
 obtain rfl:=si H
 exact rt hE []
def M3.f (k : Nat) (d : List C1) (e : Int) (g : Bool) : Y19:=(K5.f k).bind fun h=>((C0.f k d e g h).bind fun b=>(J1.f b.2.1 b.2.2.1 b.2.2.2).bind fun a=>if a.1 = true then (D2.f a.2.1 a.2.2.1 a.2.2.2).bind fun c=>some (b.1,c.1,c.2.1,c.2.2.1,c.2.2.2) else some (b.1,0,a.2.1,a.2.2.1,a.2.2.2))
theorem M3.ok (H : M3.f k b c d = some r) : j7 Tryz.prog 209 [(0,.box 227 [.row 1,.lit (.int .i64 c),.lit (.bool d)]),(1,.row 266 3 (b.map J9))] [.box 0 0] [(0,.box 227 [.row 1,.lit (.int .i64 r.2.2.2.1),.lit (.bool r.2.2.2.2)]),(1,.row 266 3 (r.2.2.1.map J9))] (.tup [.lit (.int .i64 r.1),.lit (.int .i64 r.2.1)]):=by
 refine u3 17 Tryz.func209 fun E hE=>?_
 rw [M3.f] at H
 refine d8<|c9<|rn rfl<|d9<|c8<|d8<|c9<|rn rfl ?_
 obtain ⟨j,e,H⟩:=f6 H
 refine kC (cl (K5.ok e) [2]) ?_
 obtain ⟨l,g,H⟩:=f6 H
 refine kC (cl (C0.ok g) [0,1]) ?_
 refine rn rfl<|d9<|c8<|d8<|d8<|c9<|rn rfl ?_
 obtain ⟨m,h,H⟩:=f6 H
 refine kC (cl (J1.ok h) [0,1]) ?_
 refine rn rfl<|d9<|c8 ?_
 obtain ⟨a,H⟩|⟨a,H⟩:=oi H
 ·refine iF (nF a)<|i9<|c8<|d8<|c9<|rn rfl ?_
  obtain ⟨n,i,H⟩:=f6 H
  refine kC (cl (D2.ok i) [0,1]) ?_
  refine rn rfl<|d9<|c8<|d8<|c9<|rn rfl<|d9<|c8<|f7 ?_
  obtain rfl:=si H
  exact rt hE []
 refine iT (nT (bF a))<|d8<|c9<|rn rfl<|d9<|c8<|f7<|f8 ?_
 obtain rfl:=si H
 exact rt hE []
def ae6.f  : Y38:=some ([(⟨#[114,101,97,100]⟩ : ByteArray),(⟨#[119,114,105,116,101]⟩ : ByteArray),(⟨#[111,112,101,110]⟩ : ByteArray),(⟨#[99,108,111,115,101]⟩ : ByteArray),(⟨#[115,116,97,116]⟩ : ByteArray),(⟨#[109,109,97,112]⟩ : ByteArray),(⟨#[101,120,101,99]⟩ : ByteArray),(⟨#[102,111,114,107]⟩ : ByteArray),(⟨#[107,105,108,108]⟩ : ByteArray),(⟨#[115,101,110,100]⟩ : ByteArray),(⟨#[114,101,99,118]⟩ : ByteArray),(⟨#[101,120,105,116]⟩ : ByteArray)] : List ByteArray)
theorem ae6.ok (H : ae6.f = some r) : j7 Tryz.prog 317 [] [] [(0,.row 9 1 (r.map eT'))] (.row 0):=by
 refine u3 2 Tryz.func317 fun E hE=>?_
 rw [ae6.f] at H
 refine d8<|c9<|rn rfl<|d9<|c8<|d8<|c9<|k1 (u7 0 9 1 [.string .empty] (([(⟨#[114,101,97,100]⟩ : ByteArray),(⟨#[119,114,105,116,101]⟩ : ByteArray),(⟨#[111,112,101,110]⟩ : ByteArray),(⟨#[99,108,111,115,101]⟩ : ByteArray),(⟨#[115,116,97,116]⟩ : ByteArray),(⟨#[109,109,97,112]⟩ : ByteArray),(⟨#[101,120,101,99]⟩ : ByteArray),(⟨#[102,111,114,107]⟩ : ByteArray),(⟨#[107,105,108,108]⟩ : ByteArray),(⟨#[115,101,110,100]⟩ : ByteArray),(⟨#[114,101,99,118]⟩ : ByteArray),(⟨#[101,120,105,116]⟩ : ByteArray)] : List ByteArray).map eT')) ?_
 refine rn rfl<|d9<|c8<|f7 ?_
 obtain rfl:=si H
 exact rt hE []
def O6.f (k : Nat) (d : List C1) (e : Int) (g : Bool) : Y25:=(J1.f d e g).bind fun a=>if a.1 = true then ((D2.f a.2.1 a.2.2.1 a.2.2.2).bind fun b=>some (b.1,b.2.1,b.2.2.1,b.2.2.2)) else (ae6.f).bind fun h=>((C0.f k a.2.1 a.2.2.1 a.2.2.2 h).bind fun c=>some (c.1,c.2.1,c.2.2.1,c.2.2.2))
theorem O6.ok (H : O6.f k b c d = some r) : j7 Tryz.prog 262 [(0,.box 227 [.row 1,.lit (.int .i64 c),.lit (.bool d)]),(1,.row 266 3 (b.map J9))] [.box 0 0] [(0,.box 227 [.row 1,.lit (.int .i64 r.2.2.1),.lit (.bool r.2.2.2)]),(1,.row 266 3 (r.2.1.map J9))] (.lit (.int .i64 r.1)):=by
 refine u3 10 Tryz.func262 fun E hE=>?_
 rw [O6.f] at H
 refine d8<|c9<|rn rfl<|d9<|c8<|d8<|d8<|c9<|rn rfl ?_
 obtain ⟨j,e,H⟩:=f6 H
 refine kC (cl (J1.ok e) [0,1])<|d9<|c8 ?_
 obtain ⟨a,H⟩|⟨a,H⟩:=oi H
 ·refine iT a<|d8<|c9<|rn rfl ?_
  obtain ⟨l,g,H⟩:=f6 H
  refine kC (cl (D2.ok g) [0,1]) ?_
  refine rn rfl<|d9<|c8<|f7<|f8 ?_
  obtain rfl:=si H
  exact rt hE []
 refine iF (bF a)<|i9<|c8<|d8<|c9<|rn rfl ?_
 obtain ⟨m,h,H⟩:=f6 H
 refine kC (cl (ae6.ok h) [2]) ?_
 obtain ⟨n,i,H⟩:=f6 H
 refine kC (cl (C0.ok i) [0,1]) ?_
 refine rn rfl<|d9<|c8<|f7 ?_
 obtain rfl:=si H
 exact rt hE []
def K9.f (a : List Int) : Option (List Int):=if a.length < 4611686018427387904 then some (a.mergeSort fun x y=>decide (x≤y)) else none
theorem K9.ok (H : K9.f a = some r) : j7 Tryz.prog 263 [(0,.row 3 1 (a.map (eI .i64)))] [.row 0] [(0,.row 3 1 (r.map (eI .i64)))] (.tup []):=by
 unfold K9.f at H
 obtain ⟨h,H⟩:=i8 H
 obtain rfl:=si H
 exact bx5 Tryz.lays189 3 a h
def K8.f (d : List C1) (e : Int) (g : Bool) : Y19:=(D2.f d e g).bind fun b=>(A7.f b.2.1 b.2.2.1 b.2.2.2 (⟨#[58]⟩ : ByteArray)).bind fun a=>if a.1 = true then (D2.f a.2.1 a.2.2.1 a.2.2.2).bind fun c=>some (b.1,c.1,c.2.1,c.2.2.1,c.2.2.2) else some (0,b.1,a.2.1,a.2.2.1,a.2.2.2)
theorem K8.ok (H : K8.f b c d = some r) : j7 Tryz.prog 320 [(0,.box 227 [.row 1,.lit (.int .i64 c),.lit (.bool d)]),(1,.row 266 3 (b.map J9))] [.box 0 0] [(0,.box 227 [.row 1,.lit (.int .i64 r.2.2.2.1),.lit (.bool r.2.2.2.2)]),(1,.row 266 3 (r.2.2.1.map J9))] (.agg [.lit (.int .i64 r.1),.lit (.int .i64 r.2.1)]):=by
 refine u3 17 Tryz.func320 fun E hE=>?_
 rw [K8.f] at H
 refine d8<|c9<|k1 (al 2)<|d9<|c8<|d8<|c9 ?_
 refine rn rfl ?_
 obtain ⟨i,e,H⟩:=f6 H
 refine kC (cl (D2.ok e) [0,1]) ?_
 refine rn rfl<|d9<|c8<|d8<|d8<|c9<|rn rfl ?_
 obtain ⟨j,g,H⟩:=f6 H
 refine kC (cl (A7.ok g) [0,1]) ?_
 refine rn rfl<|d9<|c8 ?_
 obtain ⟨a,H⟩|⟨a,H⟩:=oi H
 ·refine iF (nF a)<|i9<|c8<|d8<|c9<|rn rfl ?_
  obtain ⟨k,h,H⟩:=f6 H
  refine kC (cl (D2.ok h) [0,1]) ?_
  refine rn rfl<|d9<|c8<|d8<|c9<|rn rfl<|d9<|c8<|f7 ?_
  obtain rfl:=si H
  exact rt hE [] (hr:=(D5 2 .nil))
 refine iT (nT (bF a))<|d8<|c9<|rn rfl<|d9<|c8<|f7<|f8 ?_
 obtain rfl:=si H
 exact rt hE [] (hr:=(D5 2 .nil))
def ah7.f  : Y38:=some ([(⟨#[61,61]⟩ : ByteArray),(⟨#[33,61]⟩ : ByteArray),(⟨#[60]⟩ : ByteArray),(⟨#[60,61]⟩ : ByteArray),(⟨#[62]⟩ : ByteArray),(⟨#[62,61]⟩ : ByteArray)] : List ByteArray)
theorem ah7.ok (H : ah7.f = some r) : j7 Tryz.prog 321 [] [] [(0,.row 9 1 (r.map eT'))] (.row 0):=by
 refine u3 2 Tryz.func321 fun E hE=>?_
 rw [ah7.f] at H
 refine d8<|c9<|rn rfl<|d9<|c8<|d8<|c9<|k1 (u7 0 9 1 [.string .empty] (([(⟨#[61,61]⟩ : ByteArray),(⟨#[33,61]⟩ : ByteArray),(⟨#[60]⟩ : ByteArray),(⟨#[60,61]⟩ : ByteArray),(⟨#[62]⟩ : ByteArray),(⟨#[62,61]⟩ : ByteArray)] : List ByteArray).map eT')) ?_
 refine rn rfl<|d9<|c8<|f7 ?_
 obtain rfl:=si H
 exact rt hE []
mutual
def u6.l0 : Nat→Y32→Int→Int→((List ByteArray))→(List C1)→Int→Bool→Int→Int→Y11
 | 0,_,_,_,_,_,_,_,_,_=>none
 | m + 1,a,b,c,d,k,l,n,h,e=>if e < (d.length : Int) then if 0≤e then if h = 0 then ((A7.f k l n (M0 ByteArray.empty d e)).bind fun g=>if g.1 = true then u6.l0 m a b c d g.2.1 g.2.2.1 g.2.2.2 (wrap64 (e + 1)) (wrap64 (e + 1)) else u6.l0 m a b c d g.2.1 g.2.2.1 g.2.2.2 h (wrap64 (e + 1))) else u6.l0 m a b c d k l n h (wrap64 (e + 1)) else none else if h = 0 then (K8.f k l true).bind fun i=>some (a.1,b,c,h,i.1,i.2.1,i.2.2.1,i.2.2.2.1,i.2.2.2.2) else (K8.f k l n).bind fun j=>some (a.1,b,c,h,j.1,j.2.1,j.2.2.1,j.2.2.2.1,j.2.2.2.2)
def u6.j0 : Nat→Y32→(List C1)→Int→Bool→Int→Int→Y11
 | 0,_,_,_,_,_,_=>none
 | o + 1,a,p,q,r,b,c=>(ah7.f).bind fun d=>u6.l0 o a b c d p q r 0 0
end
def u6.f (k : Nat) (e : List C1) (g : Int) (h : Bool) : Y11:=(y6.f e g h (⟨#[97,114,103]⟩ : ByteArray)).bind fun d=>(D2.f d.1 d.2.1 d.2.2).bind fun b=>(A7.f b.2.1 b.2.2.1 b.2.2.2 (⟨#[38]⟩ : ByteArray)).bind fun a=>if a.1 = true then ((K8.f a.2.1 a.2.2.1 a.2.2.2).bind fun c=>u6.j0 k b c.2.2.1 c.2.2.2.1 c.2.2.2.2 c.1 c.2.1) else u6.j0 k b a.2.1 a.2.2.1 a.2.2.2 4294967295 4294967295
theorem u6.ok (H : u6.f k y z B = some r) : j7 Tryz.prog 264 [(0,.box 227 [.row 1,.lit (.int .i64 z),.lit (.bool B)]),(1,.row 266 3 (y.map J9))] [.box 0 0] [(0,.box 227 [.row 1,.lit (.int .i64 r.2.2.2.2.2.2.2.1),.lit (.bool r.2.2.2.2.2.2.2.2)]),(1,.row 266 3 (r.2.2.2.2.2.2.1.map J9))] (.agg [.lit (.int .i64 r.1),.lit (.int .i64 r.2.1),.lit (.int .i64 r.2.2.1),.lit (.int .i64 r.2.2.2.1),.lit (.int .i64 r.2.2.2.2.1),.lit (.int .i64 r.2.2.2.2.2.1)]):=by
 refine u3 47 Tryz.func264 fun E hE=>?_
 rw [u6.f] at H
 refine d8<|c9<|k1 (al 2)<|d9<|c8<|d8<|c9 ?_
 refine rn rfl<|k1 (al 3) ?_
 refine rn rfl<|d9<|c8<|d8<|c9<|rn rfl ?_
 obtain ⟨N,C,H⟩:=f6 H
 refine kC (cl (y6.ok C) [0,1])<|d9<|c8<|d8<|c9 ?_
 refine rn rfl ?_
 obtain ⟨c,D,H⟩:=f6 H
 refine kC (cl (D2.ok D) [0,1]) ?_
 refine rn rfl<|d9<|c8 ?_
 refine H0 (J:=Jc5 E 47 r k (fun k=>u6.j0 k c) (fun n o p d e=>⟨[(0,.box 0 0),(2,.box 2 0),(3,.box 3 0)],[(0,.box 227 [.row 1,.lit (.int .i64 o),.lit (.bool p)]),(1,.row 266 3 (n.map J9)),(2,.box 273 [.lit (.int .i64 0),.lit (.int .i64 0),.lit (.int .i64 0),.lit (.int .i64 0),.lit (.int .i64 0),.lit (.int .i64 0)]),(3,.box 273 [.lit (.int .i64 c.1),.lit (.int .i64 d),.lit (.int .i64 e),.lit (.int .i64 0),.lit (.int .i64 0),.lit (.int .i64 0)])]⟩)) ?_ ?_
 ·intro O q
  refine d8<|c9<|rn rfl ?_
  obtain ⟨P,F,H⟩:=f6 H
  refine kC (cl (A7.ok F) [0,1])<|d9<|c8 ?_
  obtain ⟨g,H⟩|⟨g,H⟩:=oi H
  ·refine iT g<|c9<|rn rfl ?_
   obtain ⟨Q,G,H⟩:=f6 H
   refine kC (cl (K8.ok G) [0,1]) ?_
   refine rn rfl<|d9<|l6 ?_
   exact aw hE [] (q.u (Nat.le_refl _) H)
  refine iF (bF g)<|i9<|l6 ?_
  exact aw hE [] (q.u (Nat.le_refl _) H)
 refine jc5 (fun _ _ _ _ _ _=>u6.j0.eq_2 ..) fun R n o p d e T H=>?_
 refine d8<|d8<|c9 ?_
 obtain ⟨i,I,H⟩:=f6 H
 refine kC (cl (ah7.ok I) [4])<|k0 (lnR v7) ?_
 refine rn rfl<|d9<|c8<|j4 ?_
 refine lp5 (fun k=>u6.l0 k c d e i) (fun s t u v w=>⟨[(0,.box 0 0),(2,.box 2 0),(3,.box 3 0),(18,.row 4),(19,.lit (.int .i64 (i.length : Int))),(20,.lit (.int .i64 w))],[(0,.box 227 [.row 1,.lit (.int .i64 t),.lit (.bool u)]),(1,.row 266 3 (s.map J9)),(2,.box 273 [.lit (.int .i64 0),.lit (.int .i64 0),.lit (.int .i64 0),.lit (.int .i64 0),.lit (.int .i64 0),.lit (.int .i64 0)]),(3,.box 273 [.lit (.int .i64 c.1),.lit (.int .i64 d),.lit (.int .i64 e),.lit (.int .i64 v),.lit (.int .i64 0),.lit (.int .i64 0)]),(4,.row 9 1 (i.map eT'))]⟩) H (fun _ h=>aw hE [] h) (fun _ _ _ _ _ _=>u6.l0.eq_2 ..) fun U s t u v w V H W j=>?_
 refine d8<|c9<|rn rfl<|d9<|c8<|d8 ?_
 obtain ⟨b,H⟩|⟨b,H⟩:=oi H
 ·refine iT (decide_eq_true b)<|i9<|c8<|d8<|j4<|d8<|c9<|rn rfl ?_
  obtain ⟨x,H⟩:=i8 H
  refine k0 (iR x b)<|k0 (qL x b) ?_
  refine rn rfl<|d9<|c8<|d8<|c9<|rn rfl ?_
  obtain ⟨a,H⟩|⟨a,H⟩:=oi H
  ·refine kv (g1 (eT a)) mv<|kv (g1 (eT a)) mv ?_
   obtain ⟨X,K,H⟩:=f6 H
   refine N5 (g1 (eT a)) (cl (A7.ok K) [0,1]) ?_
   refine k0 (o8 (eT a))<|d9<|c8 ?_
   obtain ⟨l,H⟩|⟨l,H⟩:=oi H
   ·refine iT l<|c9<|rn rfl<|d9<|j6<|c8<|c9<|rn rfl<|d9<|l6 ?_
    exact aw hE [] (j (Nat.le_refl _) H)
   refine iF (bF l)<|i9<|j6<|c8<|c9<|rn rfl<|d9<|l6 ?_
   exact aw hE [] (j (Nat.le_refl _) H)
  iterate 3 refine kx (hT (eF a)) ?_
  refine k0 (n8 (eF a))<|d9<|c8<|iF rfl<|i9<|j6<|c8<|c9 ?_
  refine rn rfl<|d9<|l6 ?_
  exact aw hE [] (j (Nat.le_refl _) H)
 refine iF (decide_eq_false b)<|m6<|j5<|j5<|n7 rfl<|c8<|d8<|d8<|c9<|rn rfl<|d9<|c8 ?_
 obtain ⟨m,H⟩|⟨m,H⟩:=oi H
 ·refine iT (eT m)<|c9<|rn rfl<|d9<|c8<|d8<|c9<|rn rfl ?_
  obtain ⟨Y,L,H⟩:=f6 H
  refine kC (cl (K8.ok L) [0,1]) ?_
  refine rn rfl<|d9<|c8<|d8<|c9<|rn rfl<|d9<|c8<|f7 ?_
  obtain rfl:=si H
  exact rt hE [] (hr:=(D5 6 .nil))
 refine iF (eF m)<|i9<|c8<|d8<|c9<|rn rfl ?_
 obtain ⟨Z,M,H⟩:=f6 H
 refine kC (cl (K8.ok M) [0,1]) ?_
 refine rn rfl<|d9<|c8<|d8<|c9<|rn rfl<|d9<|c8<|f7 ?_
 obtain rfl:=si H
 exact rt hE [] (hr:=(D5 6 .nil))
mutual
def n6.l0 : Nat→(List C1)→Int→Bool→(List Int)→Y8
 | 0,_,_,_,_=>none
 | j + 1,q,r,s,k=>(A7.f q r s (⟨#[44]⟩ : ByteArray)).bind fun c=>if c.1 = true then (O6.f j c.2.1 c.2.2.1 c.2.2.2).bind fun h=>if k.length + ([h.1] : List Int).length < 17592186044416 then n6.l0 j h.2.1 h.2.2.1 h.2.2.2 (k ++ ([h.1] : List Int)) else none else n6.j0 j c.2.1 c.2.2.1 c.2.2.2 k
def n6.l1 : Nat→(List Int)→(List C1)→Int→Bool→(List B9)→Int→Int→Int→Int→Int→Int→Y8
 | 0,_,_,_,_,_,_,_,_,_,_,_=>none
 | l + 1,d,t,u,v,m,I,J,K,L,M,N=>(A7.f t u v (⟨#[97,110,100]⟩ : ByteArray)).bind fun e=>if e.1 = true then (u6.f l e.2.1 e.2.2.1 e.2.2.2).bind fun a=>if m.length + ([(⟨a.1,(⟨a.2.1,a.2.2.1⟩ : r7),a.2.2.2.1,(⟨a.2.2.2.2.1,a.2.2.2.2.2.1⟩ : r7)⟩ : B9)] : List B9).length < 2932031007402 then n6.l1 l d a.2.2.2.2.2.2.1 a.2.2.2.2.2.2.2.1 a.2.2.2.2.2.2.2.2 (m ++ ([(⟨a.1,(⟨a.2.1,a.2.2.1⟩ : r7),a.2.2.2.1,(⟨a.2.2.2.2.1,a.2.2.2.2.2.1⟩ : r7)⟩ : B9)] : List B9)) a.1 a.2.1 a.2.2.1 a.2.2.2.1 a.2.2.2.2.1 a.2.2.2.2.2.1 else none else n6.j1 l d e.2.1 e.2.2.1 e.2.2.2 m
def n6.j1 : Nat→(List Int)→(List C1)→Int→Bool→(List B9)→Y8
 | 0,_,_,_,_,_=>none
 | w + 1,d,x,y,z,B=>(y6.f x y z (⟨#[100,111]⟩ : ByteArray)).bind fun n=>(M3.f w n.1 n.2.1 n.2.2).bind fun i=>(y6.f i.2.2.1 i.2.2.2.1 i.2.2.2.2 (⟨#[59]⟩ : ByteArray)).bind fun o=>some (d,B,i.1,i.2.1,o.1,o.2.1,o.2.2)
def n6.j0 : Nat→(List C1)→Int→Bool→(List Int)→Y8
 | 0,_,_,_,_=>none
 | p + 1,C,D,F,G=>(K9.f G).bind fun d=>(A7.f C D F (⟨#[105,102]⟩ : ByteArray)).bind fun g=>if g.1 = true then ((u6.f p g.2.1 g.2.2.1 g.2.2.2).bind fun b=>if ([(⟨b.1,(⟨b.2.1,b.2.2.1⟩ : r7),b.2.2.2.1,(⟨b.2.2.2.2.1,b.2.2.2.2.2.1⟩ : r7)⟩ : B9)] : List B9).length < 2932031007402 then n6.l1 p d b.2.2.2.2.2.2.1 b.2.2.2.2.2.2.2.1 b.2.2.2.2.2.2.2.2 ([(⟨b.1,(⟨b.2.1,b.2.2.1⟩ : r7),b.2.2.2.1,(⟨b.2.2.2.2.1,b.2.2.2.2.2.1⟩ : r7)⟩ : B9)] : List B9) b.1 b.2.1 b.2.2.1 b.2.2.2.1 b.2.2.2.2.1 b.2.2.2.2.2.1 else none) else n6.j1 p d g.2.1 g.2.2.1 g.2.2.2 ([])
end
def n6.f (k : Nat) (d : List C1) (e : Int) (g : Bool) : Y8:=(y6.f d e g (⟨#[111,110]⟩ : ByteArray)).bind fun c=>(A7.f c.1 c.2.1 c.2.2 (⟨#[97,110,121]⟩ : ByteArray)).bind fun a=>if a.1 = true then n6.j0 k a.2.1 a.2.2.1 a.2.2.2 ([]) else ((O6.f k a.2.1 a.2.2.1 a.2.2.2).bind fun b=>if ([b.1] : List Int).length < 17592186044416 then n6.l0 k b.2.1 b.2.2.1 b.2.2.2 ([b.1] : List Int) else none)
theorem n6.ok (H : n6.f k O P Q = some r) : j7 Tryz.prog 210 [(0,.box 227 [.row 1,.lit (.int .i64 P),.lit (.bool Q)]),(1,.row 266 3 (O.map J9))] [.box 0 0] [(0,.box 227 [.row 1,.lit (.int .i64 r.2.2.2.2.2.1),.lit (.bool r.2.2.2.2.2.2)]),(1,.row 266 3 (r.2.2.2.2.1.map J9)),(2,.row 3 1 (r.1.map (eI .i64))),(3,.row 273 6 (r.2.1.map S9))] (.agg [.row 2,.row 3,.lit (.int .i64 r.2.2.1),.lit (.int .i64 r.2.2.2.1)]):=by
 refine u3 65 Tryz.func210 fun E hE=>?_
 rw [n6.f] at H
 refine d8<|c9<|k1 (al 2)<|d9<|c8<|d8<|c9 ?_
 refine rn rfl<|k1 (al 3) ?_
 refine rn rfl<|d9<|c8<|d8<|c9<|rn rfl ?_
 obtain ⟨aE,R,H⟩:=f6 H
 refine kC (cl (y6.ok R) [0,1])<|d9<|c8 ?_
 refine H0 (J:=Jc4 E 65 r k n6.j0 (fun m n o p=>⟨[(0,.box 0 0),(2,.box 2 0),(3,.box 3 0)],[(0,.box 227 [.row 1,.lit (.int .i64 n),.lit (.bool o)]),(1,.row 266 3 (m.map J9)),(2,.box 233 [.lit (.slice none 0 0),.lit (.slice none 0 0),.lit (.int .i64 0),.lit (.int .i64 0)]),(3,.box 233 [.row 8,.lit (.slice none 0 0),.lit (.int .i64 0),.lit (.int .i64 0)]),(8,.row 3 1 (p.map (eI .i64)))]⟩)) ?_ ?_
 ·intro T q
  refine d8<|c9<|rn rfl ?_
  obtain ⟨aF,U,H⟩:=f6 H
  refine kC (cl (A7.ok U) [0,1]) ?_
  refine rn rfl<|d9<|c8 ?_
  obtain ⟨d,H⟩|⟨d,H⟩:=oi H
  ·refine iF (nF d)<|i9 ?_
   refine C4 3 0 8 3 1 [.row 8,.lit (.slice none 0 0),.lit (.int .i64 0),.lit (.int .i64 0)]<|l6 ?_
   exact aw hE [] (q.u (Nat.le_refl _) H)
  refine iT (nT (bF d))<|d8<|c9<|rn rfl ?_
  obtain ⟨V,W,H⟩:=f6 H
  refine kC (cl (O6.ok W) [0,1]) ?_
  refine rn rfl<|d9<|c8<|d8<|c9<|rn rfl<|k1 (u7 4 3 1 [.int .i64 0] (([V.1] : List Int).map (eI .i64))) ?_
  obtain ⟨X,H⟩:=i8 H
  refine k1 (apN 5 3 1 8 [.int .i64 0] (.row rfl) (bS8 X rfl)) ?_
  refine rn rfl<|d9<|c8<|j4 ?_
  refine lp4 n6.l0 (fun s t u e=>⟨[(0,.box 0 0),(2,.box 2 0),(3,.box 3 0)],[(0,.box 227 [.row 1,.lit (.int .i64 t),.lit (.bool u)]),(1,.row 266 3 (s.map J9)),(2,.box 233 [.lit (.slice none 0 0),.lit (.slice none 0 0),.lit (.int .i64 0),.lit (.int .i64 0)]),(3,.box 233 [.row 5,.lit (.slice none 0 0),.lit (.int .i64 0),.lit (.int .i64 0)]),(5,.row 3 1 (e.map (eI .i64)))]⟩) H (fun _ h=>aw hE [] h) (fun _ _ _ _ _=>n6.l0.eq_2 ..) fun aG s t u e aH H aI Y=>?_
  refine d8<|d8<|c9<|rn rfl ?_
  obtain ⟨aJ,Z,H⟩:=f6 H
  refine kC (cl (A7.ok Z) [0,1])<|d9<|c8 ?_
  obtain ⟨g,H⟩|⟨g,H⟩:=oi H
  ·refine iT g<|i9<|c8<|j4<|d8<|c9<|rn rfl ?_
   obtain ⟨v,a0,H⟩:=f6 H
   refine kC (cl (O6.ok a0) [0,1]) ?_
   refine rn rfl<|d9<|c8<|c9<|rn rfl<|k1 (u7 6 3 1 [.int .i64 0] (([v.1] : List Int).map (eI .i64))) ?_
   obtain ⟨a1,H⟩:=i8 H
   refine k3 (D7 7 3 1 8 [.int .i64 0] ((e ++ ([v.1] : List Int)).map (eI .i64)) (.row rfl) (D8 a1 rfl) z7) ?_
   refine rn rfl<|d9<|j6<|l6 ?_
   exact aw hE [(5,7)] (Y (Nat.le_refl _) H)
  refine iF (bF g)<|m6<|j5<|j5<|n7 rfl<|l6 ?_
  exact aw hE [(8,5)] (q.u (by omega) H)
 refine jc4 (fun _ _ _ _ _=>n6.j0.eq_2 ..) fun a2 m n o p aK H=>?_
 refine d8<|c9<|rn rfl ?_
 obtain ⟨c,a3,H⟩:=f6 H
 refine kC (cl (K9.ok a3) [8])<|d9<|c8 ?_
 refine H0 (J:=Jc4 E 65 r a2 (fun k=>n6.j1 k c) (fun w x y z=>⟨[(0,.box 0 0),(2,.box 2 0),(3,.box 3 0)],[(0,.box 227 [.row 1,.lit (.int .i64 x),.lit (.bool y)]),(1,.row 266 3 (w.map J9)),(2,.box 233 [.lit (.slice none 0 0),.lit (.slice none 0 0),.lit (.int .i64 0),.lit (.int .i64 0)]),(3,.box 233 [.row 8,.row 11,.lit (.int .i64 0),.lit (.int .i64 0)]),(8,.row 3 1 (c.map (eI .i64))),(11,.row 273 6 (z.map S9))]⟩)) ?_ ?_
 ·intro T B
  refine d8<|c9<|rn rfl ?_
  obtain ⟨aL,a4,H⟩:=f6 H
  refine kC (cl (A7.ok a4) [0,1])<|d9<|c8 ?_
  obtain ⟨i,H⟩|⟨i,H⟩:=oi H
  ·refine iT i<|d8<|c9<|rn rfl ?_
   obtain ⟨b,a5,H⟩:=f6 H
   refine kC (cl (u6.ok a5) [0,1])<|k1 (al 9) ?_
   refine rn rfl<|d9<|c8<|d8<|c9<|rn rfl<|k1 (u7 10 273 6 [.int .i64 0,.int .i64 0,.int .i64 0,.int .i64 0,.int .i64 0,.int .i64 0] (([(⟨b.1,(⟨b.2.1,b.2.2.1⟩ : r7),b.2.2.2.1,(⟨b.2.2.2.2.1,b.2.2.2.2.2.1⟩ : r7)⟩ : B9)] : List B9).map S9)) ?_
   obtain ⟨a6,H⟩:=i8 H
   refine k1 (apN 11 273 6 48 [.int .i64 0,.int .i64 0,.int .i64 0,.int .i64 0,.int .i64 0,.int .i64 0] (.row rfl) (bS8 a6 rfl)) ?_
   refine rn rfl<|d9<|c8<|j4 ?_
   refine ce6 (fun k=>n6.l1 k c) (fun C D F j G I K L M N=>⟨[(0,.box 0 0),(2,.box 2 0),(3,.box 3 0),(5,.box 9 0)],[(0,.box 227 [.row 1,.lit (.int .i64 D),.lit (.bool F)]),(1,.row 266 3 (C.map J9)),(2,.box 233 [.lit (.slice none 0 0),.lit (.slice none 0 0),.lit (.int .i64 0),.lit (.int .i64 0)]),(3,.box 233 [.row 8,.row 11,.lit (.int .i64 0),.lit (.int .i64 0)]),(8,.row 3 1 (c.map (eI .i64))),(9,.box 273 [.lit (.int .i64 G),.lit (.int .i64 I),.lit (.int .i64 K),.lit (.int .i64 L),.lit (.int .i64 M),.lit (.int .i64 N)]),(11,.row 273 6 (j.map S9))]⟩) H (fun _ h=>aw hE [] h) (fun _ _ _ _ _ _ _ _ _ _ _=>n6.l1.eq_2 ..) fun aM C D F j G I K L M N aN H aO a7=>?_
   refine d8<|d8<|c9<|rn rfl ?_
   obtain ⟨aP,a8,H⟩:=f6 H
   refine kC (cl (A7.ok a8) [0,1])<|d9<|c8 ?_
   obtain ⟨l,H⟩|⟨l,H⟩:=oi H
   ·refine iT l<|i9<|c8<|j4<|d8<|c9<|rn rfl ?_
    obtain ⟨a,a9,H⟩:=f6 H
    refine kC (cl (u6.ok a9) [0,1]) ?_
    refine rn rfl<|d9<|c8<|c9<|rn rfl<|k1 (u7 12 273 6 [.int .i64 0,.int .i64 0,.int .i64 0,.int .i64 0,.int .i64 0,.int .i64 0] (([(⟨a.1,(⟨a.2.1,a.2.2.1⟩ : r7),a.2.2.2.1,(⟨a.2.2.2.2.1,a.2.2.2.2.2.1⟩ : r7)⟩ : B9)] : List B9).map S9)) ?_
    obtain ⟨aA,H⟩:=i8 H
    refine k3 (D7 13 273 6 48 [.int .i64 0,.int .i64 0,.int .i64 0,.int .i64 0,.int .i64 0,.int .i64 0] ((j ++ ([(⟨a.1,(⟨a.2.1,a.2.2.1⟩ : r7),a.2.2.2.1,(⟨a.2.2.2.2.1,a.2.2.2.2.2.1⟩ : r7)⟩ : B9)] : List B9)).map S9) (.row rfl) (D8 aA rfl) z7) ?_
    refine rn rfl<|d9<|j6<|l6 ?_
    exact aw hE [(11,13)] (a7 (Nat.le_refl _) H)
   refine iF (bF l)<|m6<|j5<|j5<|n7 rfl<|l6 ?_
   exact aw hE [] (B.u (by omega) H)
  refine iF (bF i)<|i9 ?_
  refine C4 3 1 14 273 6 [.row 8,.row 14,.lit (.int .i64 0),.lit (.int .i64 0)]<|l6 ?_
  exact aw hE [(11,14)] (B.u (Nat.le_refl _) H)
 refine jc4 (fun _ _ _ _ _=>n6.j1.eq_2 ..) fun aQ w x y z aR H=>?_
 refine d8<|c9<|rn rfl ?_
 obtain ⟨aS,aB,H⟩:=f6 H
 refine kC (cl (y6.ok aB) [0,1])<|d9<|c8<|d8<|c9 ?_
 refine rn rfl ?_
 obtain ⟨aT,aC,H⟩:=f6 H
 refine kC (cl (M3.ok aC) [0,1]) ?_
 refine rn rfl<|d9<|c8<|d8<|c9<|rn rfl ?_
 obtain ⟨aU,aD,H⟩:=f6 H
 refine kC (cl (y6.ok aD) [0,1])<|d9<|c8<|d8<|c9 ?_
 refine rn rfl<|d9<|c8<|f7 ?_
 obtain rfl:=si H
 exact rt hE [(2,8),(3,11)] (hr:=(D5 4 .nil))
def aa7.f (a : Int) (b : Int) (c : Int) (d : Int) (e : Int) (g : Int) : P0:=(j8.f a 0 2).bind fun h=>(if h = true then ((R9.f b c).bind fun i=>(if i = true then ((R9.f e g).bind fun j=>(if j = true then ((j8.f d 1 6).bind fun k=>some k) else some false)) else some false)) else some false)
theorem aa7.ok (H : aa7.f d e g h i j = some r) : j7 Tryz.prog 322 [] [.agg [.lit (.int .i64 d),.lit (.int .i64 e),.lit (.int .i64 g),.lit (.int .i64 h),.lit (.int .i64 i),.lit (.int .i64 j)]] [] (.lit (.bool r)):=by
 refine u3 21 Tryz.func322 fun E hE=>?_
 rw [aa7.f] at H
 refine d8<|c9<|k1 (K2 0) ?_
 refine rn rfl<|d9<|c8<|d8<|c9<|rn rfl ?_
 obtain ⟨o,k,H⟩:=f6 H
 refine kC (cl (j8.ok k) []) ?_
 refine rn rfl ?_
 obtain ⟨a,H⟩|⟨a,H⟩:=oi H
 ·refine kv (g1 a) (y8 1 1)<|kv (g1 a) (bA 2) ?_
  obtain ⟨p,l,H⟩:=f6 H
  refine N5 (g1 a) (cl (R9.ok l) []) ?_
  refine k0 (o8 a) ?_
  refine rn rfl ?_
  obtain ⟨b,H⟩|⟨b,H⟩:=oi H
  ·refine kv (g1 b) (y8 4 4)<|kv (g1 b) (bA 2) ?_
   obtain ⟨q,m,H⟩:=f6 H
   refine N5 (g1 b) (cl (R9.ok m) []) ?_
   refine k0 (o8 b) ?_
   refine rn rfl ?_
   obtain ⟨c,H⟩|⟨c,H⟩:=oi H
   ·refine kv (g1 c) (y8 3 3)<|kv (g1 c) B5 ?_
    obtain ⟨s,n,H⟩:=f6 H
    refine N5 (g1 c) (cl (j8.ok n) []) ?_
    refine k0 (o8 c) ?_
    refine rn rfl<|d9<|c8<|f7 ?_
    obtain rfl:=si H
    exact rt hE []
   iterate 3 refine kx (hT (bF c)) ?_
   refine k0 (n8 (bF c)) ?_
   refine rn rfl<|d9<|c8<|f7 ?_
   obtain rfl:=si H
   exact rt hE []
  iterate 3 refine kx (hT (bF b)) ?_
  refine k0 (n8 (bF b)) ?_
  refine rn rfl ?_
  iterate 3 refine kx (hT rfl) ?_
  refine k0 (n8 rfl) ?_
  refine rn rfl<|d9<|c8<|f7 ?_
  obtain rfl:=si H
  exact rt hE []
 iterate 3 refine kx (hT (bF a)) ?_
 refine k0 (n8 (bF a)) ?_
 refine rn rfl ?_
 iterate 3 refine kx (hT rfl) ?_
 refine k0 (n8 rfl) ?_
 refine rn rfl ?_
 iterate 3 refine kx (hT rfl) ?_
 refine k0 (n8 rfl) ?_
 refine rn rfl<|d9<|c8<|f7 ?_
 obtain rfl:=si H
 exact rt hE []
def Z3.f (a : Int) (b : Int) : P0:=(j8.f a 0 5).bind fun c=>(if c = true then ((j8.f b 0 65535).bind fun d=>some d) else some false)
theorem Z3.ok (H : Z3.f b c = some r) : j7 Tryz.prog 266 [] [.lit (.int .i64 b),.lit (.int .i64 c)] [] (.lit (.bool r)):=by
 refine u3 11 Tryz.func266 fun E hE=>?_
 rw [Z3.f] at H
 refine d8<|c9<|rn rfl<|d9<|c8<|d8<|c9<|rn rfl ?_
 obtain ⟨g,d,H⟩:=f6 H
 refine kC (cl (j8.ok d) []) ?_
 refine rn rfl ?_
 obtain ⟨a,H⟩|⟨a,H⟩:=oi H
 ·refine kv (g1 a) mv ?_
  obtain ⟨h,e,H⟩:=f6 H
  refine N5 (g1 a) (cl (j8.ok e) []) ?_
  refine k0 (o8 a) ?_
  refine rn rfl<|d9<|c8<|f7 ?_
  obtain rfl:=si H
  exact rt hE []
 iterate 2 refine kx (hT (bF a)) ?_
 refine k0 (n8 (bF a)) ?_
 refine rn rfl<|d9<|c8<|f7 ?_
 obtain rfl:=si H
 exact rt hE []
mutual
def L4.l0 : Nat→(List Int)→(List B9)→Int→Int→Int→P0
 | 0,_,_,_,_,_=>none
 | h + 1,b,a,e,g,c=>if c < (b.length : Int) then if 0≤c then (x9.f (rd b c)).bind fun i=>(if i = true then (if c > 0 then (if 0≤(wrap64 (c - 1)) then (if (wrap64 (c - 1)) < (b.length : Int) then if (rd b (wrap64 (c - 1))) ≥ (rd b c) then some false else L4.l0 h b a e g (wrap64 (c + 1)) else none) else none) else L4.l0 h b a e g (wrap64 (c + 1))) else some false) else none else L4.l1 h b a e g 0
def L4.l1 : Nat→(List Int)→(List B9)→Int→Int→Int→P0
 | 0,_,_,_,_,_=>none
 | j + 1,b,a,e,g,d=>if d < (a.length : Int) then if 0≤d then (aa7.f ((A4 a d).f0) ((A4 a d).f1.f0) ((A4 a d).f1.f1) ((A4 a d).f2) ((A4 a d).f3.f0) ((A4 a d).f3.f1)).bind fun k=>if k = true then L4.l1 j b a e g (wrap64 (d + 1)) else some false else none else if (b.length : Int)≤4 then (if (a.length : Int)≤3 then ((Z3.f e g).bind fun l=>some l) else some false) else some false
end
def L4.f (k : Nat) (a : List Int) (b : List B9) (c : Int) (d : Int) : P0:=L4.l0 k a b c d 0
theorem L4.ok (H : L4.f k e g i j = some r) : j7 Tryz.prog 265 [] [.agg [.sl .o 1 (e.map (eI .i64)),.sl .o 6 (g.map S9),.lit (.int .i64 i),.lit (.int .i64 j)]] [] (.lit (.bool r)):=by
 refine u3 61 Tryz.func265 fun E hE=>?_
 rw [L4.f] at H
 refine d8<|c9<|k1 (K2 0) ?_
 refine rn rfl<|d9<|c8<|d8<|d8<|c9<|rn rfl<|k0 (G3 v7) ?_
 refine rn rfl<|d9<|c8<|j4 ?_
 refine lp1 (fun k=>L4.l0 k e g i j) (fun p=>⟨[(1,.box 0 0),(8,.sl .o 1 (e.map (eI .i64))),(9,.lit (.int .i64 (e.length : Int))),(10,.lit (.int .i64 p))],[(0,.box 233 [.sl .o 1 (e.map (eI .i64)),.sl .o 6 (g.map S9),.lit (.int .i64 i),.lit (.int .i64 j)])]⟩) H (fun _ h=>aw hE [] h) (fun _ _=>L4.l0.eq_2 ..) fun C p D H F q=>?_
 refine d8<|c9<|rn rfl<|d9<|c8<|d8 ?_
 obtain ⟨l,H⟩|⟨l,H⟩:=oi H
 ·refine iT (decide_eq_true l)<|i9<|c8<|d8<|j4<|d8<|c9<|rn rfl ?_
  obtain ⟨t,H⟩:=i8 H
  refine k0 (iS t l) ?_
  refine rn rfl<|d9<|c8<|d8<|c9<|rn rfl ?_
  obtain ⟨G,u,H⟩:=f6 H
  refine kC (cl (x9.ok u) []) ?_
  refine rn rfl ?_
  obtain ⟨a,H⟩|⟨a,H⟩:=oi H
  ·refine kv (g1 (nF a)) mv<|kv (g1 (nF a)) gtr<|kv (g1 (nF a)) mv ?_
   obtain ⟨b,H⟩|⟨b,H⟩:=oi H
   ·refine kv (g1 (decide_eq_true b)) (y8 0 0)<|kv (g1 (decide_eq_true b)) B5<|kv (g1 (decide_eq_true b)) mv<|kv (g1 (decide_eq_true b)) aQ7 ?_
    obtain ⟨v,H⟩:=i8 H
    obtain ⟨w,H⟩:=i8 H
    refine kv (g1 (decide_eq_true b)) (iS v w)<|kv (g1 (decide_eq_true b)) pL<|kv (g1 (decide_eq_true b)) mv<|kv (g1 (decide_eq_true b)) geq ?_
    refine kv (g1 (nF a)) (o8 (decide_eq_true b)) ?_
    refine k0 (n8 (nF a))<|d9<|c8 ?_
    obtain ⟨n,H⟩|⟨n,H⟩:=oi H
    ·refine iT (decide_eq_true n)<|d8<|c9<|rn rfl<|d9<|c8<|f7<|l7<|f8<|f8<|l7<|f8 ?_
     obtain rfl:=si H
     exact rt hE []
    refine iF (decide_eq_false n)<|i9<|j6<|c8<|c9<|rn rfl<|d9<|l6 ?_
    exact aw hE [] (q (Nat.le_refl _) H)
   iterate 8 refine kx (hT (decide_eq_false b)) ?_
   refine kv (g1 (nF a)) (n8 (decide_eq_false b)) ?_
   refine k0 (n8 (nF a))<|d9<|c8<|iF rfl<|i9<|j6<|c8<|c9 ?_
   refine rn rfl<|d9<|l6 ?_
   exact aw hE [] (q (Nat.le_refl _) H)
  iterate 2 refine kx (hF (nT (bF a))) ?_
  refine ku (neT (hF (nT (bF a)))) ?_
  iterate 8 refine ku neU ?_
  refine kx (hF (nT (bF a))) ?_
  refine k0 (o8 (nT (bF a)))<|d9<|c8<|iT rfl<|d8<|c9 ?_
  refine rn rfl<|d9<|c8<|f7<|l7<|f8<|f8<|l7<|f8 ?_
  obtain rfl:=si H
  exact rt hE []
 refine iF (decide_eq_false l)<|m6<|j5<|j5<|n7 rfl<|c8<|d8<|d8<|c9<|rn rfl<|k0 (G3 v7) ?_
 refine rn rfl<|d9<|c8<|j4 ?_
 refine lp1 (fun k=>L4.l1 k e g i j) (fun s=>⟨[(1,.box 0 0),(34,.sl .o 6 (g.map S9)),(35,.lit (.int .i64 (g.length : Int))),(36,.lit (.int .i64 s))],[(0,.box 233 [.sl .o 1 (e.map (eI .i64)),.sl .o 6 (g.map S9),.lit (.int .i64 i),.lit (.int .i64 j)])]⟩) H (fun _ h=>aw hE [] h) (fun _ _=>L4.l1.eq_2 ..) fun I s J H K x=>?_
 refine d8<|c9<|rn rfl<|d9<|c8<|d8 ?_
 obtain ⟨m,H⟩|⟨m,H⟩:=oi H
 ·refine iT (decide_eq_true m)<|i9<|c8<|d8<|j4<|d8<|c9 ?_
  obtain ⟨y,H⟩:=i8 H
  refine k0 (iS y m) ?_
  refine rn rfl<|k1 (al 1) ?_
  refine rn rfl<|d9<|c8<|d8<|c9<|rn rfl ?_
  obtain ⟨L,z,H⟩:=f6 H
  refine kC (cl (aa7.ok z) []) ?_
  refine rn rfl<|d9<|c8 ?_
  obtain ⟨o,H⟩|⟨o,H⟩:=oi H
  ·refine iF (nF o)<|i9<|j6<|c8<|c9<|rn rfl<|d9<|l6 ?_
   exact aw hE [] (x (Nat.le_refl _) H)
  refine iT (nT (bF o))<|d8<|c9<|rn rfl<|d9<|c8<|f7<|l7<|f8<|f8<|l7<|f8 ?_
  obtain rfl:=si H
  exact rt hE []
 refine iF (decide_eq_false m)<|m6<|j5<|j5<|n7 rfl<|c8<|d8<|c9<|rn rfl<|k0 (G3 v7) ?_
 refine rn rfl ?_
 obtain ⟨d,H⟩|⟨d,H⟩:=oi H
 ·refine kv (g1 (decide_eq_true d)) (y8 1 1)<|kv (g1 (decide_eq_true d)) B5<|kv (g1 (decide_eq_true d)) (G3 v7)<|kv (g1 (decide_eq_true d)) leq ?_
  refine k0 (o8 (decide_eq_true d)) ?_
  refine rn rfl ?_
  obtain ⟨c,H⟩|⟨c,H⟩:=oi H
  ·refine kv (g1 (decide_eq_true c)) (y8 2 2)<|kv (g1 (decide_eq_true c)) B5<|kv (g1 (decide_eq_true c)) (y8 3 3)<|kv (g1 (decide_eq_true c)) B5 ?_
   obtain ⟨M,B,H⟩:=f6 H
   refine N5 (g1 (decide_eq_true c)) (cl (Z3.ok B) []) ?_
   refine k0 (o8 (decide_eq_true c)) ?_
   refine rn rfl<|d9<|c8<|f7 ?_
   obtain rfl:=si H
   exact rt hE []
  iterate 5 refine kx (hT (decide_eq_false c)) ?_
  refine k0 (n8 (decide_eq_false c)) ?_
  refine rn rfl<|d9<|c8<|f7 ?_
  obtain rfl:=si H
  exact rt hE []
 iterate 4 refine kx (hT (decide_eq_false d)) ?_
 refine k0 (n8 (decide_eq_false d)) ?_
 refine rn rfl ?_
 iterate 5 refine kx (hT rfl) ?_
 refine k0 (n8 rfl) ?_
 refine rn rfl<|d9<|c8<|f7 ?_
 obtain rfl:=si H
 exact rt hE []
def K3.l0 : Nat→Int→Int→Int→(List D9)→Int→P0
 | 0,_,_,_,_,_=>none
 | c + 1,d,e,g,a,b=>if b < (a.length : Int) then if 0≤b then (L4.f c ((K0 a b).f0) ((K0 a b).f1) ((K0 a b).f2) ((K0 a b).f3)).bind fun h=>if h = true then K3.l0 c d e g a (wrap64 (b + 1)) else some false else none else (x9.f d).bind fun i=>(if i = true then ((Z3.f e g).bind fun j=>(if j = true then some (decide ((a.length : Int)≤10)) else some false)) else some false)
def K3.f (k : Nat) (a : Int) (b : Int) (c : Int) (d : List D9) : P0:=K3.l0 k a b c d 0
theorem K3.ok (H : K3.f k e g i c = some r) : j7 Tryz.prog 211 [] [.agg [.lit (.int .i64 e),.lit (.int .i64 g),.lit (.int .i64 i),.sl .o 4 (c.map X0)]] [] (.lit (.bool r)):=by
 refine u3 32 Tryz.func211 fun E hE=>?_
 rw [K3.f] at H
 refine d8<|c9<|k1 (K2 0) ?_
 refine rn rfl<|d9<|c8<|d8<|d8<|c9<|rn rfl<|k0 (G3 v7) ?_
 refine rn rfl<|d9<|c8<|j4 ?_
 refine lp1 (fun k=>K3.l0 k e g i c) (fun l=>⟨[(1,.box 0 0),(6,.sl .o 4 (c.map X0)),(7,.lit (.int .i64 (c.length : Int))),(8,.lit (.int .i64 l))],[(0,.box 189 [.lit (.int .i64 e),.lit (.int .i64 g),.lit (.int .i64 i),.sl .o 4 (c.map X0)])]⟩) H (fun _ h=>aw hE [] h) (fun _ _=>K3.l0.eq_2 ..) fun s l t H u m=>?_
 refine d8<|c9<|rn rfl<|d9<|c8<|d8 ?_
 obtain ⟨d,H⟩|⟨d,H⟩:=oi H
 ·refine iT (decide_eq_true d)<|i9<|c8<|d8<|j4<|d8<|c9 ?_
  obtain ⟨n,H⟩:=i8 H
  refine k0 (iS n d) ?_
  refine rn rfl<|k1 (al 1) ?_
  refine rn rfl<|d9<|c8<|d8<|c9<|rn rfl ?_
  obtain ⟨v,o,H⟩:=f6 H
  refine kC (cl (L4.ok o) []) ?_
  refine rn rfl<|d9<|c8 ?_
  obtain ⟨j,H⟩|⟨j,H⟩:=oi H
  ·refine iF (nF j)<|i9<|j6<|c8<|c9<|rn rfl<|d9<|l6 ?_
   exact aw hE [] (m (Nat.le_refl _) H)
  refine iT (nT (bF j))<|d8<|c9<|rn rfl<|d9<|c8<|f7<|l7<|f8<|f8<|l7<|f8 ?_
  obtain rfl:=si H
  exact rt hE []
 refine iF (decide_eq_false d)<|m6<|j5<|j5<|n7 rfl<|c8<|d8<|c9<|rn rfl ?_
 obtain ⟨w,p,H⟩:=f6 H
 refine kC (cl (x9.ok p) []) ?_
 refine rn rfl ?_
 obtain ⟨a,H⟩|⟨a,H⟩:=oi H
 ·refine kv (g1 a) (y8 1 1)<|kv (g1 a) B5<|kv (g1 a) (y8 2 2)<|kv (g1 a) B5 ?_
  obtain ⟨x,q,H⟩:=f6 H
  refine N5 (g1 a) (cl (Z3.ok q) []) ?_
  refine k0 (o8 a) ?_
  refine rn rfl ?_
  obtain ⟨b,H⟩|⟨b,H⟩:=oi H
  ·refine kv (g1 b) (y8 3 3)<|kv (g1 b) B5<|kv (g1 b) (G3 v7)<|kv (g1 b) leq ?_
   refine k0 (o8 b) ?_
   refine rn rfl<|d9<|c8<|f7 ?_
   obtain rfl:=si H
   exact rt hE []
  iterate 4 refine kx (hT (bF b)) ?_
  refine k0 (n8 (bF b)) ?_
  refine rn rfl<|d9<|c8<|f7 ?_
  obtain rfl:=si H
  exact rt hE []
 iterate 5 refine kx (hT (bF a)) ?_
 refine k0 (n8 (bF a)) ?_
 refine rn rfl ?_
 iterate 4 refine kx (hT rfl) ?_
 refine k0 (n8 rfl) ?_
 refine rn rfl<|d9<|c8<|f7 ?_
 obtain rfl:=si H
 exact rt hE []
mutual
def A8.l0 : Nat→Y32→Y26→(List C1)→Int→Bool→(List D9)→Y20
 | 0,_,_,_,_,_,_=>none
 | d + 1,c,b,e,g,h,i=>if h = true then A8.j0 d c b e g h i else if g < (e.length : Int) then (n6.f d e g h).bind fun a=>if i.length + ([(⟨a.1,a.2.1,a.2.2.1,a.2.2.2.1⟩ : D9)] : List D9).length < 2199023255552 then A8.l0 d c b a.2.2.2.2.1 a.2.2.2.2.2.1 a.2.2.2.2.2.2 (i ++ ([(⟨a.1,a.2.1,a.2.2.1,a.2.2.2.1⟩ : D9)] : List D9)) else none else A8.j0 d c b e g h i
def A8.j0 : Nat→Y32→Y26→(List C1)→Int→Bool→(List D9)→Y20
 | 0,_,_,_,_,_,_=>none
 | k + 1,c,b,n,o,l,j=>if l = true then some (0,0,0,[],false) else ((K3.f k c.1 b.1 b.2.1 j).bind fun m=>if m = true then some (c.1,b.1,b.2.1,j,true) else some (0,0,0,[],false))
end
def A8.f (k : Nat) (i : ByteArray) : Y20:=(o7.f k i).bind fun h=>if h.2 = true then (y6.f h.1 0 false (⟨#[97,114,99,104]⟩ : ByteArray)).bind fun c=>(D2.f c.1 c.2.1 c.2.2).bind fun a=>(y6.f a.2.1 a.2.2.1 a.2.2.2 (⟨#[59]⟩ : ByteArray)).bind fun d=>(y6.f d.1 d.2.1 d.2.2 (⟨#[100,101,102,97,117,108,116]⟩ : ByteArray)).bind fun e=>(M3.f k e.1 e.2.1 e.2.2).bind fun b=>(y6.f b.2.2.1 b.2.2.2.1 b.2.2.2.2 (⟨#[59]⟩ : ByteArray)).bind fun g=>A8.l0 k a b g.1 g.2.1 g.2.2 ([]) else some (0,0,0,[],false)
theorem A8.ok (H : A8.f k v = some r) : j7 Tryz.prog 151 [] [.lit (.string v)] [(0,.row 233 4 (r.2.2.2.1.map X0))] (.tup [.agg [.lit (.int .i64 r.1),.lit (.int .i64 r.2.1),.lit (.int .i64 r.2.2.1),.row 0],.lit (.bool r.2.2.2.2)]):=by
 refine u3 72 Tryz.func151 fun E hE=>?_
 rw [A8.f] at H
 refine d8<|c9<|k1 (al 0) ?_
 refine rn rfl<|d9<|c8<|d8<|c9<|rn rfl ?_
 obtain ⟨L,w,H⟩:=f6 H
 refine kC (cl (o7.ok w) [1]) ?_
 refine rn rfl<|d9<|c8<|d8<|d8<|c9<|rn rfl<|d9<|c8 ?_
 obtain ⟨g,H⟩|⟨g,H⟩:=oi H
 ·refine iF (nF g)<|i9<|c8<|d8<|c9<|rn rfl<|k1 (K2 2) ?_
  refine rn rfl<|d9<|c8<|d8<|c9<|rn rfl<|k1 (al 3) ?_
  refine rn rfl<|d9<|c8<|d8<|c9<|rn rfl ?_
  obtain ⟨M,x,H⟩:=f6 H
  refine kC (cl (y6.ok x) [2,1])<|d9<|c8<|d8<|c9 ?_
  refine rn rfl ?_
  obtain ⟨e,y,H⟩:=f6 H
  refine kC (cl (D2.ok y) [2,1]) ?_
  refine rn rfl<|d9<|c8<|d8<|c9<|rn rfl ?_
  obtain ⟨N,z,H⟩:=f6 H
  refine kC (cl (y6.ok z) [2,1])<|d9<|c8<|d8<|c9 ?_
  refine rn rfl ?_
  obtain ⟨O,B,H⟩:=f6 H
  refine kC (cl (y6.ok B) [2,1])<|d9<|c8<|d8<|c9 ?_
  refine rn rfl ?_
  obtain ⟨b,C,H⟩:=f6 H
  refine kC (cl (M3.ok C) [2,1]) ?_
  refine rn rfl<|d9<|c8<|d8<|c9<|rn rfl ?_
  obtain ⟨P,D,H⟩:=f6 H
  refine kC (cl (y6.ok D) [2,1])<|d9<|c8 ?_
  refine H0 (J:=Jc4 E 72 r k (fun k=>A8.j0 k e b) (fun m n o p=>⟨[(2,.box 0 0),(6,.box 2 0),(7,.box 3 0)],[(0,.box 189 [.lit (.int .i64 0),.lit (.int .i64 0),.lit (.int .i64 0),.lit (.slice none 0 0)]),(1,.row 266 3 (m.map J9)),(2,.box 227 [.row 1,.lit (.int .i64 n),.lit (.bool o)]),(3,.box 189 [.lit (.int .i64 e.1),.lit (.int .i64 b.1),.lit (.int .i64 b.2.1),.row 11]),(11,.row 233 4 (p.map X0))]⟩)) ?_ ?_
  ·intro Q q
   refine j4 ?_
   refine C4 3 3 11 233 4 [.lit (.int .i64 e.1),.lit (.int .i64 b.1),.lit (.int .i64 b.2.1),.row 11] ?_
   refine lp4 (fun k=>A8.l0 k e b) (fun s t u i=>⟨[(2,.box 0 0),(4,.row 1),(6,.box 2 0),(7,.box 3 0)],[(0,.box 189 [.lit (.int .i64 0),.lit (.int .i64 0),.lit (.int .i64 0),.lit (.slice none 0 0)]),(1,.row 266 3 (s.map J9)),(2,.box 227 [.row 1,.lit (.int .i64 t),.lit (.bool u)]),(3,.box 189 [.lit (.int .i64 e.1),.lit (.int .i64 b.1),.lit (.int .i64 b.2.1),.row 11]),(11,.row 233 4 (i.map X0))]⟩) H (fun _ h=>aw hE [] h) (fun _ _ _ _ _=>A8.l0.eq_2 ..) fun R s t u i T H U F=>?_
   refine d8<|d8<|c9<|rn rfl ?_
   obtain ⟨a,H⟩|⟨a,H⟩:=oi H
   ·iterate 7 refine kx (hT (nF a)) ?_
    refine k0 (n8 (nF a))<|d9<|c8<|iF rfl<|m6<|j5<|j5<|n7 rfl<|l6 ?_
    exact aw hE [] (q.u (by omega) H)
   refine kv (g1 (nT (bF a))) mv<|kv (g1 (nT (bF a))) an3<|kv (g1 (nT (bF a))) (y8 1 1)<|kv (g1 (nT (bF a))) B5<|kv (g1 (nT (bF a))) mv<|kv (g1 (nT (bF a))) (lnR v7)<|kv (g1 (nT (bF a))) lss ?_
   refine k0 (o8 (nT (bF a)))<|d9<|c8 ?_
   obtain ⟨j,H⟩|⟨j,H⟩:=oi H
   ·refine iT (decide_eq_true j)<|i9<|c8<|j4<|d8<|c9<|rn rfl ?_
    obtain ⟨c,G,H⟩:=f6 H
    refine kC (cl (n6.ok G) [2,1,12,13])<|k1 (al 14) ?_
    refine rn rfl<|d9<|c8 ?_
    refine aq7 12 ?_
    refine aq7 13<|c9 ?_
    refine rn rfl<|k1 (u7 17 233 4 [.slice none 0 0,.slice none 0 0,.int .i64 0,.int .i64 0] (([(⟨c.1,c.2.1,c.2.2.1,c.2.2.2.1⟩ : D9)] : List D9).map X0)) ?_
    obtain ⟨I,H⟩:=i8 H
    refine k3 (D7 18 233 4 64 [.slice none 0 0,.slice none 0 0,.int .i64 0,.int .i64 0] ((i ++ ([(⟨c.1,c.2.1,c.2.2.1,c.2.2.2.1⟩ : D9)] : List D9)).map X0) (.row rfl) (D8 I rfl) z7) ?_
    refine rn rfl<|d9<|j6<|l6 ?_
    exact aw hE [(11,18)] (F (Nat.le_refl _) H)
   refine iF (decide_eq_false j)<|m6<|j5<|j5<|n7 rfl<|l6 ?_
   exact aw hE [] (q.u (by omega) H)
  refine jc4 (fun _ _ _ _ _=>A8.j0.eq_2 ..) fun V m n o p W H=>?_
  refine d8<|d8<|c9<|rn rfl ?_
  obtain ⟨d,H⟩|⟨d,H⟩:=oi H
  ·iterate 3 refine kx (hF d) ?_
   refine k0 (o8 d)<|d9<|c8<|iT rfl<|d8<|c9 ?_
   refine rn rfl<|d9<|c8<|f7<|f8 ?_
   refine C4 0 3 20 233 4 [.lit (.int .i64 0),.lit (.int .i64 0),.lit (.int .i64 0),.row 20] ?_
   obtain rfl:=si H
   exact rt hE [(0,20)] (hr:=(D5 4 (.tmp .nil)))
  refine kv (g1 (bF d)) (bA 4) ?_
  obtain ⟨X,K,H⟩:=f6 H
  refine N5 (g1 (bF d)) (cl (K3.ok K) [])<|kv (g1 (bF d)) V4 ?_
  refine k0 (n8 (bF d))<|d9<|c8 ?_
  obtain ⟨l,H⟩|⟨l,H⟩:=oi H
  ·refine iF (nF l)<|i9<|c8<|d8<|c9<|rn rfl<|d9<|c8<|f7 ?_
   obtain rfl:=si H
   exact rt hE [(0,11)] (hr:=(D5 4 (.tmp .nil)))
  refine iT (nT (bF l))<|d8<|c9<|rn rfl<|d9<|c8<|f7<|f8 ?_
  refine C4 0 3 21 233 4 [.lit (.int .i64 0),.lit (.int .i64 0),.lit (.int .i64 0),.row 21] ?_
  obtain rfl:=si H
  exact rt hE [(0,21)] (hr:=(D5 4 (.tmp .nil)))
 refine iT (nT (bF g))<|d8<|c9<|rn rfl<|d9<|c8<|f7<|f8 ?_
 refine C4 0 3 19 233 4 [.lit (.int .i64 0),.lit (.int .i64 0),.lit (.int .i64 0),.row 19] ?_
 obtain rfl:=si H
 exact rt hE [(0,19)] (hr:=(D5 4 (.tmp .nil)))
def G1.f (a : Int) (b : Int) : Y12:=some (ByteArray.empty,a,b,0,0,ByteArray.empty,ByteArray.empty)
theorem G1.ok (H : G1.f a b = some r) : j7 Tryz.prog 267 [] [.lit (.int .i64 a),.lit (.int .i64 b)] [] (.agg [.lit (.string r.1),.lit (.int .i64 r.2.1),.lit (.int .i64 r.2.2.1),.lit (.int .i64 r.2.2.2.1),.lit (.int .i64 r.2.2.2.2.1),.lit (.string r.2.2.2.2.2.1),.lit (.string r.2.2.2.2.2.2)]):=by
 refine u3 9 Tryz.func267 fun E hE=>?_
 rw [G1.f] at H
 refine d8<|c9<|k1 (al 0)<|d9<|c8<|d8<|c9 ?_
 refine rn rfl<|d9<|c8<|f7 ?_
 obtain rfl:=si H
 exact rt hE [] (hr:=(D5 7 .nil))
def H1.f (a : Int) (b : Int) (c : ByteArray) (d : ByteArray) : Y12:=some (ByteArray.empty,a,b,0,0,c,d)
theorem H1.ok (H : H1.f a b c d = some r) : j7 Tryz.prog 268 [] [.lit (.int .i64 a),.lit (.int .i64 b),.lit (.string c),.lit (.string d)] [] (.agg [.lit (.string r.1),.lit (.int .i64 r.2.1),.lit (.int .i64 r.2.2.1),.lit (.int .i64 r.2.2.2.1),.lit (.int .i64 r.2.2.2.2.1),.lit (.string r.2.2.2.2.2.1),.lit (.string r.2.2.2.2.2.2)]):=by
 refine u3 15 Tryz.func268 fun E hE=>?_
 rw [H1.f] at H
 refine d8<|c9<|k1 (al 0)<|d9<|c8<|d8<|c9 ?_
 refine rn rfl<|d9<|c8<|f7 ?_
 obtain rfl:=si H
 exact rt hE [] (hr:=(D5 7 .nil))
def A0.f (a : ByteArray) : Y12:=some (a,0,0,0,0,ByteArray.empty,ByteArray.empty)
theorem A0.ok (H : A0.f a = some r) : j7 Tryz.prog 269 [] [.lit (.string a)] [] (.agg [.lit (.string r.1),.lit (.int .i64 r.2.1),.lit (.int .i64 r.2.2.1),.lit (.int .i64 r.2.2.2.1),.lit (.int .i64 r.2.2.2.2.1),.lit (.string r.2.2.2.2.2.1),.lit (.string r.2.2.2.2.2.2)]):=by
 refine u3 5 Tryz.func269 fun E hE=>?_
 rw [A0.f] at H
 refine d8<|c9<|k1 (al 0)<|d9<|c8<|d8<|c9 ?_
 refine rn rfl<|d9<|c8<|f7 ?_
 obtain rfl:=si H
 exact rt hE [] (hr:=(D5 7 .nil))
def P2.f (a : List Int) : Option (List Int):=if a.length≤9223372036854775807 then some (Go.Lib.compact a) else none
theorem P2.ok (H : P2.f a = some r) : j7 Tryz.prog 324 [(0,.row 3 1 (a.map (eI .i64)))] [.row 0] [(0,.gone),(1,.row 3 1 (r.map (eI .i64)))] (.row 1):=by
 unfold P2.f at H
 obtain ⟨h,H⟩:=i8 H
 obtain rfl:=si H
 exact bf7 Tryz.laysNm220 3 a h
def M7.l0 : Nat→(List D9)→(List Int)→Int→Y47
 | 0,_,_,_=>none
 | d + 1,b,c,a=>if a < (b.length : Int) then if 0≤a then if c.length + ((K0 b a).f0).length < 17592186044416 then M7.l0 d b (c ++ ((K0 b a).f0)) (wrap64 (a + 1)) else none else none else (K9.f c).bind fun e=>(P2.f e).bind fun g=>some g
def M7.f (k : Nat) (b : Int) (c : Int) (d : Int) (a : List D9) : Y47:=M7.l0 k a ([] : List Int) 0
theorem M7.ok (H : M7.f k e g i a = some r) : j7 Tryz.prog 271 [] [.agg [.lit (.int .i64 e),.lit (.int .i64 g),.lit (.int .i64 i),.sl .o 4 (a.map X0)]] [(0,.row 3 1 (r.map (eI .i64)))] (.row 0):=by
 refine u3 23 Tryz.func271 fun E hE=>?_
 rw [M7.f] at H
 refine d8<|c9<|k1 (K2 0) ?_
 refine rn rfl<|d9<|c8<|d8<|c9<|k1 (u7 1 3 1 [.int .i64 0] (([] : List Int).map (eI .i64))) ?_
 refine rn rfl<|d9<|c8<|d8<|d8<|c9<|rn rfl<|k0 (G3 v7) ?_
 refine rn rfl<|d9<|c8<|j4 ?_
 refine V7 (fun k=>M7.l0 k a) (fun c d=>⟨[(3,.row 1),(8,.sl .o 4 (a.map X0)),(9,.lit (.int .i64 (a.length : Int))),(10,.lit (.int .i64 d))],[(1,.row 3 1 (c.map (eI .i64)))]⟩) H (fun _ h=>aw hE [] h) (fun _ _ _=>M7.l0.eq_2 ..) fun p c d q H s j=>?_
 refine d8<|c9<|rn rfl<|d9<|c8<|d8 ?_
 obtain ⟨b,H⟩|⟨b,H⟩:=oi H
 ·refine iT (decide_eq_true b)<|i9<|c8<|d8<|j4<|d8<|c9 ?_
  obtain ⟨l,H⟩:=i8 H
  refine k0 (iS l b) ?_
  refine rn rfl<|k1 (al 2) ?_
  refine rn rfl<|d9<|c8<|c9<|rn rfl ?_
  obtain ⟨m,H⟩:=i8 H
  refine k3 (D7 3 3 1 8 [.int .i64 0] ((c ++ ((K0 a d).f0)).map (eI .i64)) (.slF (flI)) (D8 m rfl) z7) ?_
  refine rn rfl<|d9<|j6<|c8<|c9<|rn rfl<|d9<|l6 ?_
  exact aw hE [(1,3)] (j (Nat.le_refl _) H)
 refine iF (decide_eq_false b)<|m6<|j5<|j5<|n7 rfl<|c8<|d8<|c9<|rn rfl ?_
 obtain ⟨t,n,H⟩:=f6 H
 refine kC (cl (K9.ok n) [1])<|d9<|c8<|d8<|c9 ?_
 refine rn rfl ?_
 obtain ⟨u,o,H⟩:=f6 H
 refine kC (cl (P2.ok o) [1,4]) ?_
 refine rn rfl<|d9<|c8<|f7 ?_
 obtain rfl:=si H
 exact rt hE [(0,4)]
def B3.l0 : Nat→(List Int)→Int→Int→Y55
 | 0,_,_,_=>none
 | d + 1,b,c,a=>if a < (b.length : Int) then if 0≤a then if c = (rd b a) then some a else B3.l0 d b c (wrap64 (a + 1)) else none else some (-1)
def B3.f (k : Nat) (a : List Int) (b : Int) : Y55:=B3.l0 k a b 0
theorem B3.ok (H : B3.f k a c = some r) : j7 Tryz.prog 364 [] [.sl .o 1 (a.map (eI .i64)),.lit (.int .i64 c)] [] (.lit (.int .i64 r)):=by
 refine u3 19 Tryz.func364 fun E hE=>?_
 rw [B3.f] at H
 refine d8<|c9<|rn rfl<|d9<|c8<|d8<|d8<|c9<|rn rfl<|k0 (G3 v7) ?_
 refine rn rfl<|d9<|c8<|j4 ?_
 refine lp1 (fun k=>B3.l0 k a c) (fun e=>⟨[(0,.sl .o 1 (a.map (eI .i64))),(1,.lit (.int .i64 c)),(7,.lit (.int .i64 (a.length : Int))),(8,.lit (.int .i64 e))],[]⟩) H (fun _ h=>aw hE [] h) (fun _ _=>B3.l0.eq_2 ..) fun j e l H m g=>?_
 refine d8<|c9<|rn rfl<|d9<|c8<|d8 ?_
 obtain ⟨b,H⟩|⟨b,H⟩:=oi H
 ·refine iT (decide_eq_true b)<|i9<|c8<|d8<|j4<|d8<|c9<|rn rfl<|d9<|c8<|d8<|c9<|rn rfl ?_
  obtain ⟨i,H⟩:=i8 H
  refine k0 (iS i b) ?_
  refine rn rfl<|d9<|c8 ?_
  obtain ⟨d,H⟩|⟨d,H⟩:=oi H
  ·refine iT (eT d)<|d8<|c9<|rn rfl<|d9<|c8<|f7<|l7<|f8<|f8<|l7<|f8 ?_
   obtain rfl:=si H
   exact rt hE []
  refine iF (eF d)<|i9<|j6<|c8<|c9<|rn rfl<|d9<|l6 ?_
  exact aw hE [] (g (Nat.le_refl _) H)
 refine iF (decide_eq_false b)<|m6<|j5<|j5<|n7 rfl<|c8<|d8<|c9<|rn rfl<|d9<|c8<|f7 ?_
 obtain rfl:=si H
 exact rt hE []
def L7.f (k : Nat) (a : List Int) (b : Int) : P0:=(B3.f k a b).bind fun c=>some (decide (c ≥ 0))
theorem L7.ok (H : L7.f k a b = some r) : j7 Tryz.prog 352 [] [.sl .o 1 (a.map (eI .i64)),.lit (.int .i64 b)] [] (.lit (.bool r)):=by
 refine u3 9 Tryz.func352 fun E hE=>?_
 rw [L7.f] at H
 refine d8<|c9<|rn rfl<|d9<|c8<|d8<|c9<|rn rfl ?_
 obtain ⟨d,c,H⟩:=f6 H
 refine kC (cl (B3.ok c) []) ?_
 refine rn rfl<|d9<|c8<|f7 ?_
 obtain rfl:=si H
 exact rt hE []
def K7.l0 : Nat→Int→ByteArray→Int→Y49
 | 0,_,_,_=>none
 | d + 1,c,b,a=>if a = 0 then if c < 0 then (if (⟨#[45]⟩ : ByteArray).size + b.size≤9223372036854775807 then some ((⟨#[45]⟩ : ByteArray) ++ b) else none) else some b else if 0≤(max (a.tmod 10) (wrap64 (0 - (a.tmod 10)))) then (if (max (a.tmod 10) (wrap64 (0 - (a.tmod 10))))≤(wrap64 ((max (a.tmod 10) (wrap64 (0 - (a.tmod 10)))) + 1)) then (if (wrap64 ((max (a.tmod 10) (wrap64 (0 - (a.tmod 10)))) + 1))≤((⟨#[48,49,50,51,52,53,54,55,56,57,97,98,99,100,101,102]⟩ : ByteArray).size : Int) then (if ((⟨#[48,49,50,51,52,53,54,55,56,57,97,98,99,100,101,102]⟩ : ByteArray).extract (max (a.tmod 10) (wrap64 (0 - (a.tmod 10)))).toNat (wrap64 ((max (a.tmod 10) (wrap64 (0 - (a.tmod 10)))) + 1)).toNat).size + b.size≤9223372036854775807 then K7.l0 d c (((⟨#[48,49,50,51,52,53,54,55,56,57,97,98,99,100,101,102]⟩ : ByteArray).extract (max (a.tmod 10) (wrap64 (0 - (a.tmod 10)))).toNat (wrap64 ((max (a.tmod 10) (wrap64 (0 - (a.tmod 10)))) + 1)).toNat) ++ b) (wrap64 (a.tdiv 10)) else none) else none) else none) else none
def K7.f (k : Nat) (a : Int) : Y49:=if a = 0 then some (⟨#[48]⟩ : ByteArray) else K7.l0 k a ByteArray.empty a
theorem K7.ok (H : K7.f k a = some r) : j7 Tryz.prog 365 [] [.lit (.int .i64 a)] [] (.lit (.string r)):=by
 refine u3 30 Tryz.func365 fun E hE=>?_
 rw [K7.f] at H
 refine d8<|c9<|rn rfl<|d9<|c8<|d8<|d8<|c9<|rn rfl<|d9<|c8 ?_
 obtain ⟨b,H⟩|⟨b,H⟩:=oi H
 ·refine iT (eT b)<|d8<|c9<|rn rfl<|d9<|c8<|f7<|f8 ?_
  obtain rfl:=si H
  exact rt hE []
 refine iF (eF b)<|i9<|c8<|d8<|c9<|rn rfl<|d9<|c8<|d8<|d8<|c9<|rn rfl<|d9<|c8<|j4 ?_
 refine V7 (fun k=>K7.l0 k a) (fun e g=>⟨[(0,.lit (.int .i64 a)),(3,.lit (.string e)),(4,.lit (.int .i64 g))],[]⟩) H (fun _ h=>aw hE [] h) (fun _ _ _=>K7.l0.eq_2 ..) fun p e g q H s i=>?_
 refine d8<|d8<|c9<|rn rfl<|d9<|c8 ?_
 obtain ⟨c,H⟩|⟨c,H⟩:=oi H
 ·refine iF (eM c)<|m6<|j5<|j5<|n7 rfl<|c8<|d8<|d8<|c9<|rn rfl<|d9<|c8 ?_
  obtain ⟨d,H⟩|⟨d,H⟩:=oi H
  ·refine iT (decide_eq_true d)<|c9<|rn rfl ?_
   obtain ⟨j,H⟩:=i8 H
   refine k0 (N4 j) ?_
   refine rn rfl<|d9<|c8<|d8<|c9<|rn rfl<|d9<|c8<|f7 ?_
   obtain rfl:=si H
   exact rt hE []
  refine iF (decide_eq_false d)<|i9<|c8<|d8<|c9<|rn rfl<|d9<|c8<|f7 ?_
  obtain rfl:=si H
  exact rt hE []
 refine iT (eN c)<|i9<|c8<|d8<|j4<|d8<|c9<|rn rfl<|k0 (rem (by decide : (10 : Int)≠0)) ?_
 refine rn rfl<|d9<|c8<|d8<|c9<|rn rfl<|k0 cf6<|k0 max_ ?_
 refine rn rfl<|d9<|c8<|c9<|rn rfl ?_
 obtain ⟨l,H⟩:=i8 H
 obtain ⟨m,H⟩:=i8 H
 obtain ⟨n,H⟩:=i8 H
 refine k0 (bw9 l m n) ?_
 refine rn rfl ?_
 obtain ⟨o,H⟩:=i8 H
 refine k0 (N4 o) ?_
 refine rn rfl<|d9<|j6<|c8<|c9<|rn rfl<|k0 (aE2 (by decide : (10 : Int)≠0)) ?_
 refine rn rfl<|d9<|l6 ?_
 exact aw hE [] (i (Nat.le_refl _) H)
end Go.Proofs.YtahmbcgolnplgaaGreat.PFnNoHoles
