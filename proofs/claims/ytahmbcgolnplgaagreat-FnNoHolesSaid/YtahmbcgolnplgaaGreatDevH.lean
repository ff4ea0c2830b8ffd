import Derived.Test.YtahmbcgolnplgaaGreatDevD
set_option linter.unusedVariables false
set_option linter.unusedSimpArgs false
namespace Go.Proofs.YtahmbcgolnplgaaGreat.PFnNoHoles
open Go Go.RowKit Go.Proofs.YtahmbcgolnplgaaGreatA Go.Proofs.YtahmbcgolnplgaaGreatL
abbrev En':=D1
abbrev Er':=A2
def ad7 (x0 x1 x2 x3 x4 x5 x6 : Int) : Bool:=decide (0≤x1∧x1≤2) && (decide (1≤x2∧x2≤1000000000) && (if x0 = 1 then I3 ⟨x3,x4,x5,x6⟩ else decide (x0 = 2∧x3 = 0∧x4 = 0∧x5 = 0∧x6 = 0)))
theorem ap4 (x0 x1 x2 x3 x4 x5 x6 : Int) : P8.f x0 x1 x2 x3 x4 x5 x6 = some (ad7 x0 x1 x2 x3 x4 x5 x6):=by
 unfold P8.f aa4.f ad7
 simp only [M2,Option.bind_some]
 by_cases h1 : 0≤x1∧x1≤2
 ·by_cases h2 : 1≤x2∧x2≤1000000000
  ·rw [decide_eq_true h1,decide_eq_true h2]
   by_cases h3 : x0 = 1
   ·rw [if_pos h3,if_pos h3];rw [show T4.f x3 x4 x5 x6 = some (I3 ⟨x3,x4,x5,x6⟩) from ao7 ⟨x3,x4,x5,x6⟩];rfl
   ·rw [if_neg h3,if_neg h3]
    by_cases h4 : x0 = 2
    ·rw [if_pos h4];refine congrArg some ?_;rw [Bool.eq_iff_iff];simp [h4]
    ·rw [if_neg h4];simp [h4]
  ·rw [decide_eq_true h1,decide_eq_false h2];rfl
 ·rw [decide_eq_false h1];rfl
theorem ai3 {x0 x1 x2 x3 x4 x5 x6 : Int} (h : ad7 x0 x1 x2 x3 x4 x5 x6 = true) : (0≤x1∧x1≤2)∧(1≤x2∧x2≤1000000000)∧((x0 = 1∧I3 ⟨x3,x4,x5,x6⟩ = true)∨(x0 = 2∧x3 = 0∧x4 = 0∧x5 = 0∧x6 = 0)):=by
 unfold ad7 at h
 simp only [Bool.and_eq_true,decide_eq_true_eq] at h
 refine ⟨h.1,h.2.1,?_⟩
 by_cases h3 : x0 = 1
 ·rw [if_pos h3] at h;exact .inl ⟨h3,h.2.2⟩
 ·rw [if_neg h3] at h;exact .inr (of_decide_eq_true h.2.2)
def bK4 (p s : Int) (y : Er') : Bool:=decide (y.f0 = p∧y.f1 = s)
def ag4 (E : List Er') (p s : Int) : Int:=af9 (bK4 p s) (fun j=>(j : Int)) (-1) 0 E
theorem aC3 (E : List Er') (hE : E.length≤1048577) (p s : Int) : Ev (fun k=>F5.f k E p s) (ag4 E p s):=by
 unfold F5.f ag4
 refine aL7 (fun k i=>F5.l0 k E p s i) E (bK4 p s) _ _ ?_ ?_ ?_
 ·refine Ev.step (fun _=>rfl) ?_
  simp only [F5.l0];exact Ev.neg (by omega) (Ev.now _)
 ·intro i x hx hp
  have hi:=G7 hx
  have hp:=of_decide_eq_true hp
  refine Ev.step (fun _=>rfl) ?_
  simp only [F5.l0];rw [bz6 hx]
  exact Ev.pos (by omega) (Ev.pos (by omega) (Ev.pos hp.1 (Ev.pos hp.2 (Ev.now _))))
 ·intro i x r hx hp hr
  have hi:=G7 hx
  have hp:=of_decide_eq_false hp
  refine Ev.step (fun _=>rfl) ?_
  simp only [F5.l0];rw [bz6 hx,m7 (x:=(i : Int) + 1) (by omega) (by omega)]
  exact Ev.pos (by omega) (Ev.pos (by omega) (Ev.both (fun h1=>Ev.neg (fun h2=>hp ⟨h1,h2⟩) hr) (fun _=>hr)))
theorem aH8 (E : List Er') (p s : Int) : (∃ (j : Nat) (y : Er'),ag4 E p s = (j : Int)∧E[j]? = some y∧y.f0 = p∧y.f1 = s)∨(ag4 E p s = -1∧∀ y ∈ E,¬ (y.f0 = p∧y.f1 = s)):=by
 rcases an4 (bK4 p s) (fun j=>(j : Int)) (-1) E 0 with ⟨_,j,y,hy,hp,_,he⟩ | ⟨h,he⟩
 ·have:=of_decide_eq_true hp
  exact .inl ⟨j,y,by unfold ag4;rw [he];simp,hy,this.1,this.2⟩
 ·exact .inr ⟨he,fun y hy=>of_decide_eq_false (h y hy)⟩
def ab8 (p : Int) : Nat→List En'→List Er'→Int→List En'×List Er'×Int
 | 0,L,E,x=>(L,E,x)
 | d + 1,L,E,x=>if ag4 E p x < 0 then (L,E,x) else ab8 p d (L ++ [⟨p,x,(E.getD (ag4 E p x).toNat aQ2).f2⟩]) (E.eraseIdx (ag4 E p x).toNat) (x + 1)
abbrev KRv:=List En'×List Int×List Er'×Int×List Int×Bool
def ai7 (L : List En') (N : List Int) (E : List Er') (a : Int) (A : List Int) (kd p s q0 q1 q2 q3 : Int) : KRv:=
 if ad7 kd p s q0 q1 q2 q3 = true∧kd = 1∧p < (N.length : Int)∧L.length < 200 then
  if s = rd N p then ((ab8 p (199 - L.length) (L ++ [⟨p,s,⟨q0,q1,q2,q3⟩⟩]) E (s + 1)).1,N.set p.toNat (ab8 p (199 - L.length) (L ++ [⟨p,s,⟨q0,q1,q2,q3⟩⟩]) E (s + 1)).2.2,(ab8 p (199 - L.length) (L ++ [⟨p,s,⟨q0,q1,q2,q3⟩⟩]) E (s + 1)).2.1,a,A,true)
  else if rd N p < s∧s≤rd N p + 3∧ag4 E p s < 0∧E.length < 3 then (L,N,E ++ [⟨p,s,⟨q0,q1,q2,q3⟩⟩],a,A,false)
  else (L,N,E,a,A,false)
 else (L,N,E,a,A,false)
theorem bx2 (p : Int) (h0 : 0≤p) (N : List Int) (h1 : p < (N.length : Int)) (x0 x1 x2 x3 x4 x5 : Int) (a : Int) (A : List Int) (c0 : List En') (c1 : List Int) (c2 : List Er') : ∀ (d : Nat) (L : List En') (E : List Er') (x : Int),L.length + d = 200→E.length≤1048577→0≤x∧x + d≤10000000000 →
 Ev (fun k=>F0.l0 k x0 p x1 x2 x3 x4 x5 (c0,c1,c2,a,A) L (N.set p.toNat x) E) ((ab8 p d L E x).1,N.set p.toNat (ab8 p d L E x).2.2,(ab8 p d L E x).2.1,a,A,true):=by
 intro d
 induction d with
 | zero=>
  intro L E x hd hE hx
  refine Ev.step (fun _=>rfl) ?_
  simp only [F0.l0,ab8];exact Ev.neg (by omega) (Ev.now _)
 | succ d ih=>
  intro L E x hd hE hx
  have e:=aC3 E hE p x
  refine Ev.step (fun _=>rfl) ?_
  simp only [F0.l0]
  rw [aI5 N p x h0 h1]
  refine Ev.pos (by omega) (Ev.pos (by simp;omega) (Ev.bind e ?_))
  unfold ab8
  rcases aH8 E p x with ⟨j,y,ej,hy,hp,hs⟩ | ⟨ej,hn⟩
  ·have hj:=G7 hy
   have g : E.getD j aQ2 = y:=J8 E _ hy
   rw [ej,if_neg (by omega),Int.toNat_natCast,g,bz6 hy,hp,hs,List.set_set,m7 (x:=(j : Int) + 1) (by omega) (by omega),m7 (x:=x + 1) (by omega) (by omega),show ((j : Int) + 1).toNat = j + 1 by omega,← List.eraseIdx_eq_take_drop_succ]
   refine Ev.neg (by omega) (Ev.pos (by omega) (Ev.pos (by omega) (Ev.pos (by omega) (Ev.pos (by omega) (Ev.pos (by omega) (Ev.pos (by rw [List.length_take,List.length_drop];omega) (Ev.pos (by simp only [List.length_cons,List.length_nil];omega) ?_)))))))
   exact ih _ _ _ (by simp only [List.length_append,List.length_cons,List.length_nil];omega) (by rw [List.length_eraseIdx];split <;> omega) (by omega)
  ·rw [ej,if_pos (by omega)];exact Ev.pos (by omega) (Ev.now _)
structure KSm (L : List En') (N : List Int) (E : List Er') (A : List Int) : Prop where
 l : L.length≤1048576
 n : N.length≤1048576
 e : E.length≤1048576
 a : A.length≤1048576
 b : ∀ v ∈ N,0≤v∧v≤2000000000
theorem KSm.at {L : List En'} {N : List Int} {E : List Er'} {A : List Int} (h : KSm L N E A) {p : Int} (h0 : 0≤p) (h1 : p < (N.length : Int)) : 0≤rd N p∧rd N p≤2000000000:=by
 have hx : N[p.toNat]? = some N[p.toNat]:=List.getElem?_eq_getElem (by omega)
 have : rd N p = N[p.toNat]:=by unfold rd;exact J8 N 0 hx
 rw [this];exact h.b _ (List.getElem_mem _)
theorem aO4 {L : List En'} {N : List Int} {E : List Er'} {A : List Int} (h : KSm L N E A) (a kd p s q0 q1 q2 q3 : Int) : Ev (fun k=>F0.f k L N E a A kd p s q0 q1 q2 q3) (ai7 L N E a A kd p s q0 q1 q2 q3):=by
 have c:=ac7 L N E a A h.l h.n h.e h.a
 have f:=ap4 kd p s q0 q1 q2 q3
 have hE:=h.e
 unfold F0.f ai7
 refine Ev.bindc c (Ev.bindc f ?_)
 by_cases h1 : ad7 kd p s q0 q1 q2 q3 = true
 ·refine Ev.pos h1 ?_
  obtain ⟨r1,r2,_⟩:=ai3 h1
  by_cases h2 : kd = 1
  ·refine Ev.pos h2 ?_
   by_cases h3 : p < (N.length : Int)
   ·refine Ev.neg (by omega) ?_
    by_cases h4 : L.length < 200
    ·refine Ev.neg (by omega) (Ev.pos r1.1 (Ev.pos h3 ?_))
     rw [if_pos ⟨h1,h2,h3,h4⟩]
     have hr:=h.at r1.1 h3
     by_cases h5 : s = rd N p
     ·refine Ev.pos h5 ?_
      rw [if_pos h5,← h5,m7 (x:=s + 1) (by omega) (by omega)]
      refine Ev.pos (by simp only [List.length_cons,List.length_nil];omega) (Ev.pos (by first | exact h3 | exact r1.1) ?_)
      exact bx2 p r1.1 N h3 kd s q0 q1 q2 q3 a A L N E _ _ _ _ (by simp only [List.length_append,List.length_cons,List.length_nil];omega) (by show E.length≤_;omega) (by omega)
     ·refine Ev.neg h5 ?_
      rw [if_neg h5,m7 (x:=rd N p + 3) (by omega) (by omega)]
      have j0 : ∀ b : Bool,Ev (fun k=>F0.j0 k kd p s q0 q1 q2 q3 (L,N,E,a,A) b) (if b = true then (L,N,E ++ [⟨p,s,⟨q0,q1,q2,q3⟩⟩],a,A,false) else (L,N,E,a,A,false)):=fun b=>by
       refine Ev.step (fun _=>rfl) ?_
       simp only [F0.j0]
       cases b with
       | true=>exact Ev.pos rfl (Ev.pos (by show E.length + 1 < _;omega) (Ev.now _))
       | false=>exact Ev.neg (by decide) (Ev.now _)
      have jf:=j0 false
      rw [if_neg (by decide)] at jf
      by_cases h6 : rd N p < s
      ·refine Ev.pos h6 ?_
       by_cases h7 : s≤rd N p + 3
       ·refine Ev.pos h7 (Ev.bind (aC3 E (by omega) p s) ?_)
        by_cases h8 : ag4 E p s < 0
        ·refine Ev.pos h8 ?_
         have jt:=j0 (decide ((E.length : Int) < 3))
         by_cases h9 : E.length < 3
         ·rw [if_pos ⟨h6,h7,h8,h9⟩]
          rw [decide_eq_true (show (E.length : Int) < 3 by omega),if_pos rfl] at jt
          rw [decide_eq_true (show (E.length : Int) < 3 by omega)]
          exact jt
         ·rw [if_neg (fun h=>h9 h.2.2.2)]
          rw [decide_eq_false (show ¬ (E.length : Int) < 3 by omega)]
          exact jf
        ·rw [if_neg (fun h=>h8 h.2.2.1)];exact Ev.neg h8 jf
       ·rw [if_neg (fun h=>h7 h.2.1)];exact Ev.neg h7 jf
      ·rw [if_neg (fun h=>h6 h.1)];exact Ev.neg h6 jf
    ·rw [if_neg (fun h=>h4 h.2.2.2)];exact Ev.pos (by omega) (Ev.now _)
   ·rw [if_neg (fun h=>h3 h.2.2.1)];exact Ev.pos (by omega) (Ev.now _)
  ·rw [if_neg (fun h=>h2 h.2.1)];exact Ev.neg h2 (Ev.now _)
 ·rw [if_neg (fun h=>h1 h.1)];exact Ev.neg h1 (Ev.now _)
theorem aO1 {L : List En'} {N : List Int} {E : List Er'} {A : List Int} (h : KSm L N E A) (a : Int) : P6.f L N E a A = some (L,N,E,(L.length : Int),N):=by
 unfold P6.f
 rw [ac7 L N E a A h.l h.n h.e h.a]
 simp only [Option.bind_some]
 rw [ab6 N h.n];rfl
def aK2 (L : List En') (a : Int) (A : List Int) : List En'×List Int×List Er'×Int×List Int:=(if 0≤a∧a≤(L.length : Int) then L.take a.toNat else L,A,[],a,A)
theorem br1 {L : List En'} {N : List Int} {E : List Er'} {A : List Int} (h : KSm L N E A) (a : Int) : Ev (fun k=>G6.f k L N E a A) (aK2 L a A):=by
 have j0 : ∀ l : List En',Ev (fun k=>G6.j0 k (L,N,E,a,A) l) (l,A,[],a,A):=fun l=>by
  refine Ev.step (fun _=>rfl) ?_
  simp only [G6.j0]
  exact Ev.bindc (ab6 A h.a) (Ev.now _)
 unfold G6.f aK2
 refine Ev.bindc (ac7 L N E a A h.l h.n h.e h.a) (Ev.bindc (M2 _ _ _) ?_)
 by_cases h1 : 0≤a∧a≤(L.length : Int)
 ·rw [if_pos h1]
  exact Ev.pos (decide_eq_true h1) (Ev.pos h1.1 (Ev.pos h1.2 (j0 _)))
 ·rw [if_neg h1]
  exact Ev.neg (by rw [decide_eq_false h1];decide) (j0 _)
def aY0 (A : List Int) (q : Int) : Int×Int×Int×Int×Int×Int×Int×Bool:=if 0≤q∧q < (A.length : Int) then (2,q,rd A q,0,0,0,0,true) else (0,0,0,0,0,0,0,false)
theorem aI7 (L : List En') (N : List Int) (E : List Er') (a : Int) (A : List Int) (hA : A.length≤1048576) (q : Int) : aa1.f L N E a A q = some (aY0 A q):=by
 unfold aa1.f aY0
 rw [m7 (x:=(A.length : Int) - 1) (by omega) (by omega),M2]
 simp only [Option.bind_some,decide_eq_true_eq]
 by_cases h : 0≤q∧q < (A.length : Int)
 ·rw [if_pos (by omega),if_pos h.1,if_pos h.2,if_pos h]
 ·rw [if_neg (by omega),if_neg h]
def frT (x0 x1 x2 x3 x4 x5 x6 : Int) : ByteArray:=(aZ5 (frB x0 x1 x2 x3 x4 x5 x6)).1
theorem aq9 {a b c d : Int} (h : I3 (⟨a,b,c,d⟩ : u5) = true) : (a = 1∧(0≤b∧b≤4294967295)∧(0≤c∧c≤4294967295)∧d = 0)∨(a = 2∧b = 0∧c = 0∧1≤d∧d≤1000000000):=by
 unfold I3 at h
 have:=of_decide_eq_true h
 simp only at this
 omega
theorem aV0 {x0 x1 x2 x3 x4 x5 x6 : Int} (h : ad7 x0 x1 x2 x3 x4 x5 x6 = true) : (0≤x0∧x0 < 256)∧(0≤x1∧x1 < 256)∧(1≤x2∧x2≤1000000000)∧(0≤x3∧x3 < 256)∧(0≤x4∧x4 < 4294967296)∧(0≤x5∧x5 < 4294967296)∧(0≤x6∧x6≤1000000000):=by
 obtain ⟨h1,h2,h3 | h3⟩:=ai3 h
 ·have:=aq9 h3.2
  omega
 ·omega
theorem bT8 (x0 x1 x2 x3 x4 x5 x6 : Int) : aZ5 (frB x0 x1 x2 x3 x4 x5 x6) = (frT x0 x1 x2 x3 x4 x5 x6,true):=by unfold frT;rw [aD7]
theorem bk2 (x0 x1 x2 x3 x4 x5 x6 : Int) : (frT x0 x1 x2 x3 x4 x5 x6).size≤30∧(as3 (frT x0 x1 x2 x3 x4 x5 x6)).2 = true:=by
 have h1:=ae8 x2;have h2:=ae8 x6
 have h3:=aw8 x0 x1 x2 x3 x4 x5 x6
 unfold frT
 rw [aD7]
 refine ⟨by rw [ByteArray.size_append,P4];omega,?_⟩
 rw [bh6 (by omega)]
theorem aw1 {x0 x1 x2 x3 x4 x5 x6 : Int} (h : ad7 x0 x1 x2 x3 x4 x5 x6 = true) : Ev (fun k=>Q5.f k x0 x1 x2 x3 x4 x5 x6) (frT x0 x1 x2 x3 x4 x5 x6,true):=by
 have hf:=ap4 x0 x1 x2 x3 x4 x5 x6
 rw [h] at hf
 obtain ⟨_,_,h3,_,_,_,h6⟩:=aV0 h
 have z2:=ae8 x2;have z6:=ae8 x6
 have hz:=aw8 x0 x1 x2 x3 x4 x5 x6
 have hs:=ba6 (frB x0 x1 x2 x3 x4 x5 x6) (by omega)
 rw [bT8] at hs
 unfold Q5.f
 simp only [IntKind.wrap_u8]
 refine Ev.bindc hf (Ev.pos rfl (Ev.bind (aq5 x2 (by omega) (by omega)) (Ev.bind (aq5 x6 (by omega) (by omega)) (Ev.pos ?_ (Ev.pos ?_ (Ev.bindc (au5 _) (Ev.pos ?_ (Ev.bindc (au5 _) (Ev.pos ?_ (Ev.pos ?_ (Ev.bind hs (Ev.now _))))))))))))
 all_goals (simp only [ByteArray.size_append,strOfNums_size,P4,List.length_cons,List.length_nil];omega)
theorem al1 {x0 x1 x2 x3 x4 x5 x6 : Int} (h : ad7 x0 x1 x2 x3 x4 x5 x6 = true) : Ev (fun k=>Q7.f k (frT x0 x1 x2 x3 x4 x5 x6)) (x0,x1,x2,x3,x4,x5,x6,true):=by
 obtain ⟨h0,h1,h2,h3,h4,h5,h6⟩:=aV0 h
 have z2:=ae8 x2;have z6:=ae8 x6
 have hz:=aw8 x0 x1 x2 x3 x4 x5 x6
 obtain ⟨b0,b1,p2,b3,f4,f5,p6⟩:=bE1 (x2:=x2) (x6:=x6) h0 h1 h3 h4 h5 _ rfl
 unfold frT
 rw [aD7]
 generalize frB x0 x1 x2 x3 x4 x5 x6 = s at hz b0 b1 p2 b3 f4 f5 p6 ⊢
 have u:=aw5 (s ++ L5 (ah3 s)) (by rw [ByteArray.size_append,P4];omega)
 rw [bh6 (by omega)] at u
 have r1:=aR8 s (by omega) 2 _ x2 (by omega) (by omega) (by omega) p2
 have r2:=aR8 s (by omega) _ _ x6 h6 (by omega) (Nat.le_refl _) p6
 generalize he1 : 2 + (N2 x2).size = e1 at *
 have g1:=ao0 s (e1 + 1) (by omega) (by omega)
 have g2:=ao0 s (e1 + 5) (by omega) (by omega)
 rw [f4] at g1;rw [f5] at g2
 have ef':=ap4 x0 x1 x2 x3 x4 x5 x6
 rw [h] at ef'
 unfold Q7.f
 refine Ev.bind u (Ev.pos rfl (Ev.neg (by dsimp only;omega) (Ev.bind r1 ?_)))
 dsimp only
 rw [m7 (x:=(s.size : Int) - (e1 : Int)) (by omega) (by omega),m7 (x:=(e1 : Int) + 9) (by omega) (by omega),m7 (x:=(e1 : Int) + 1) (by omega) (by omega),m7 (x:=(e1 : Int) + 5) (by omega) (by omega),b0,b1,b3,m7 (x:=x0) (by omega) (by omega),m7 (x:=x1) (by omega) (by omega),m7 (x:=x3) (by omega) (by omega)]
 exact Ev.pos rfl (Ev.neg (by omega) (Ev.bind r2 (Ev.pos (by omega) (Ev.pos (by omega) (Ev.pos (by omega) (Ev.pos (by omega) (Ev.bindc g1 (Ev.bindc g2 (Ev.pos rfl (Ev.pos rfl (Ev.bindc ef' (Ev.pos rfl (Ev.now _)))))))))))))
theorem aH2 {t : ByteArray} (hz : t.size≤1048576) (h : (as3 t).2 = false) : Ev (fun k=>Q7.f k t) (0,0,0,0,0,0,0,false):=by
 unfold Q7.f
 exact Ev.bind (aw5 t hz) (Ev.neg (by rw [h];decide) (Ev.now _))
end Go.Proofs.YtahmbcgolnplgaaGreat.PFnNoHoles
namespace Go.Proofs.YtahmbcgolnplgaaGreat.PFnNoHoles
open Go Go.RowKit Go.Proofs.YtahmbcgolnplgaaGreatA Go.Proofs.YtahmbcgolnplgaaGreatL
theorem aO8 (a : Int) : x9.f a = some (decide (0≤a∧a≤4294967295)):=by
 unfold x9.f;rw [M2];rfl
def as9 (a : Int) : Bool:=decide (0≤a∧a≤4294967295)
def af6 (l : List It) (a b c u v : Int) : List It×Int×Int×Int×Bool:=
 if Q8 l a b c = true∧as9 u = true∧as9 v = true∧c < 1000000000 then
  if a = 0∨(l.length : Int) + (if b > 0 then 2 else 1) > 4 then (l,a,b + 1,c + 1,false)
  else ((l ++ (if b > 0 then [⟨2,0,0,b⟩] else [])) ++ [⟨1,u,v,0⟩],a - 1,0,c + 1,true)
 else (l,a,b,c,false)
theorem R2 {l : List It} {a b c : Int} (h : Q8 l a b c = true) : l.length≤4∧(0≤a∧a≤5)∧(0≤b∧b≤1000000000)∧(0≤c∧c≤1000000000)∧l.all I3 = true∧ao8 l b≤c:=by
 unfold Q8 am5 at h
 simp only [Bool.and_eq_true,decide_eq_true_eq] at h
 exact ⟨h.1.1,h.1.2.1,h.1.2.2.1,h.1.2.2.2,h.2.1,h.2.2⟩
theorem ba2 (l : List It) (a b c u v : Int) (hl : l.length≤1048576) : Ev (fun k=>z8.f k l a b c u v) (af6 l a b c u v):=by
 have cp:=ab4 l a b c hl
 have no : ¬ (Q8 l a b c = true∧as9 u = true∧as9 v = true∧c < 1000000000)→Ev (fun _=>some (l,a,b,c,false)) (af6 l a b c u v):=fun h=>by unfold af6;rw [if_neg h];exact Ev.now _
 unfold z8.f
 refine Ev.bindc cp (Ev.bind (aC0 l a b c hl) ?_)
 by_cases h1 : Q8 l a b c = true
 ·obtain ⟨r1,r2,r3,r4,_⟩:=R2 h1
  refine Ev.pos h1 (Ev.bindc (aO8 u) ?_)
  by_cases h2 : as9 u = true
  ·refine Ev.pos h2 (Ev.bindc (aO8 v) ?_)
   by_cases h3 : as9 v = true
   ·refine Ev.pos h3 ?_
    by_cases h4 : c = 1000000000
    ·exact Ev.pos h4 (no (fun h=>by omega))
    ·refine Ev.neg h4 ?_
     have w1 : ∀ _ : Unit,wrap64 (b + 1) = b + 1:=fun _=>m7 (by omega) (by omega)
     have w2 : ∀ _ : Unit,wrap64 (c + 1) = c + 1:=fun _=>m7 (by omega) (by omega)
     have w3 : ∀ _ : Unit,wrap64 (a - 1) = a - 1:=fun _=>m7 (by omega) (by omega)
     have j2 : ∀ q : List It,q.length≤100→Ev (fun k=>z8.j2 k u v (l,a,b,c) q 0) (q ++ [⟨1,u,v,0⟩],a - 1,0,c + 1,true):=fun q hq=>by
      refine Ev.step (fun _=>rfl) ?_
      simp only [z8.j2,List.length_cons,List.length_nil]
      rw [w2 (),w3 ()]
      exact Ev.pos (by omega) (Ev.now _)
     have j1 : ∀ z : Bool,(z = true↔(a = 0∨(l.length : Int) + (if b > 0 then 2 else 1) > 4))→Ev (fun k=>z8.j1 k l a b c u v (l,a,b,c) z) (af6 l a b c u v):=fun z hz=>by
      unfold af6
      rw [if_pos ⟨h1,h2,h3,by omega⟩]
      refine Ev.step (fun _=>rfl) ?_
      simp only [z8.j1]
      by_cases hc : a = 0∨(l.length : Int) + (if b > 0 then 2 else 1) > 4
      ·refine Ev.pos (hz.2 hc) ?_
       rw [if_pos hc,w1 (),w2 ()];exact Ev.now _
      ·refine Ev.neg (fun h=>hc (hz.1 h)) ?_
       rw [if_neg hc]
       by_cases hb : b > 0
       ·refine Ev.pos hb ?_
        rw [if_pos hb]
        exact Ev.pos (by show l.length + 1 < _;omega) (j2 _ (by simp;omega))
       ·refine Ev.neg hb ?_
        rw [if_neg hb,List.append_nil]
        have hb0 : b = 0:=by omega
        subst hb0
        exact j2 _ (by omega)
     have j0 : ∀ n : Int,n = (if b > 0 then 2 else 1)→Ev (fun k=>z8.j0 k l a b c u v (l,a,b,c) n) (af6 l a b c u v):=fun n hn=>by
      have hn2 : n = 1∨n = 2:=by rw [hn];split <;> omega
      refine Ev.step (fun _=>rfl) ?_
      simp only [z8.j0]
      rw [m7 (x:=(l.length : Int) + n) (by omega) (by omega)]
      by_cases ha : a = 0
      ·exact Ev.pos ha (j1 _ (by simp [ha]))
      ·exact Ev.neg ha (j1 _ (by rw [← hn];simp [ha]))
     by_cases hb : b > 0
     ·exact Ev.pos hb (j0 2 (by rw [if_pos hb]))
     ·exact Ev.neg hb (j0 1 (by rw [if_neg hb]))
   ·exact Ev.neg h3 (no (fun h=>h3 h.2.2.1))
  ·exact Ev.neg h2 (no (fun h=>h2 h.2.1))
 ·exact Ev.neg h1 (no (fun h=>h1 h.1))
theorem aT7 (l : List It) (a b c n : Int) (hl : l.length≤1048576) (ha : 0≤a∧a≤5) (hn : 0≤n∧n≤5) : Ev (fun k=>H3.f k l a b c n) (l,min 5 (a + n),b,c):=by
 have j0 : ∀ z : Bool,(z = true→a + n ≥ 5)→Ev (fun k=>H3.j0 k l a b c n (l,a,b,c) z) (l,min 5 (a + n),b,c):=fun z hz=>by
  refine Ev.step (fun _=>rfl) ?_
  simp only [H3.j0]
  rw [m7 (x:=a + n) (by omega) (by omega)]
  cases z with
  | true=>have:=hz rfl;rw [show min 5 (a + n) = 5 by omega];exact Ev.pos rfl (Ev.now _)
  | false=>exact Ev.neg (by decide) (Ev.now _)
 unfold H3.f
 refine Ev.bindc (ab4 l a b c hl) (Ev.neg (by omega) ?_)
 by_cases h1 : a ≥ 5
 ·exact Ev.pos h1 (j0 _ (fun _=>by omega))
 ·exact Ev.neg h1 (Ev.neg (by omega) (Ev.pos (by omega) (j0 _ (fun h=>by have:=of_decide_eq_true h;omega))))
abbrev Rg:=H7
abbrev Sd:=D3
abbrev Lt:=C7
abbrev Sn:=E9
structure Wv where
 s : List (List (List Iw))
 r : List Rg
 d : List Sd
 L : List En'
 N : List Int
 E : List Er'
 a : Int
 A : List Int
 net : List Lt
 now : Int
 res : List Int
 file : List Sn
def tw (w : Wv) : List (List (List Iw))×List Rg×List Sd×List En'×List Int×List Er'×Int×List Int×List Lt×Int×List Int×List Sn:=(w.s,w.r,w.d,w.L,w.N,w.E,w.a,w.A,w.net,w.now,w.res,w.file)
def tw2 (w : Wv) (c : Int) : List (List (List Iw))×List Rg×List Sd×List En'×List Int×List Er'×Int×List Int×List Lt×Int×List Int×List Sn×Int:=(w.s,w.r,w.d,w.L,w.N,w.E,w.a,w.A,w.net,w.now,w.res,w.file,c)
structure WB (w : Wv) : Prop where
 s3 : w.s.length = 3
 sS : ∀ x ∈ w.s,ag6 x = true
 r3 : w.r.length = 3
 rR : ∀ y ∈ w.r,Q8 y.f0 y.f1 y.f2 y.f3 = true
 d3 : w.d.length = 3
 dD : ∀ y ∈ w.d,E3 y.f0 y.f1 y.f2 y.f3 y.f4 = true
 k : KSm w.L w.N w.E w.A
 n10 : w.net.length≤10
 nT : ∀ y ∈ w.net,y.f1.size≤1048576
 t : 0≤w.now∧w.now≤100000
 re : w.res.length≤1000
 fi : w.file.length≤199
theorem ad1 {α : Type} {l : List α} {z : α} {p : Int} (h0 : 0≤p) (h1 : p < (l.length : Int)) : l.getD p.toNat z ∈ l:=by
 rw [List.getD_eq_getElem?_getD,List.getElem?_eq_getElem (by omega),Option.getD_some];exact List.getElem_mem _
theorem bw3 {α : Type} {l : List α} {z : α} {p : Int} (h0 : 0≤p) (h1 : p < (l.length : Int)) : l.set p.toNat (l.getD p.toNat z) = l:=by
 rw [List.getD_eq_getElem?_getD,List.getElem?_eq_getElem (by omega),Option.getD_some,List.set_getElem_self]
theorem WB.st {w : Wv} (h : WB w) {x : List (List Iw)} (hx : x ∈ w.s) : x.length≤3∧(∀ y ∈ x,y.length≤400)∧PlS x:=by
 obtain ⟨h1,h2⟩:=bp7 (h.sS x hx)
 exact ⟨h1,h2,by omega,fun y hy=>by have:=h2 y hy;omega⟩
theorem Q3 {a b : Int} {l : List It} {c d : Int} (h : E3 a b l c d = true) : l.all I3 = true∧(0≤a∧a≤2)∧(1≤b∧b≤1000000000)∧l.length≤3∧(0≤c∧c≤1000000000)∧(d = 1∨d = 2∨d = 4):=by
 obtain ⟨h1,h2⟩:=ah2 h
 refine ⟨h1,?_⟩
 omega
theorem rRg {l : List Rg} {i : Nat} {x : Rg} (h : l[i]? = some x) : V2 l (i : Int) = x:=by
 unfold V2;simpa using J8 l z50 h
theorem rSd {l : List Sd} {i : Nat} {x : Sd} (h : l[i]? = some x) : I0 l (i : Int) = x:=by
 unfold I0;simpa using J8 l z48 h
theorem au3 {w : Wv} (h : WB w) : Ev (fun k=>t7.f k w.s w.r w.d w.L w.N w.E w.a w.A w.net w.now w.res w.file) (tw w):=by
 have s3:=h.s3;have r3:=h.r3;have d3:=h.d3;have n10:=h.n10;have re:=h.re;have fi:=h.fi
 unfold t7.f tw
 refine Ev.bindc (ac7 _ _ _ _ _ h.k.l h.k.n h.k.e h.k.a) ?_
 simp only [List.nil_append,List.length_nil]
 refine Ev.pos (by omega) (Ev.bindc (ab6 w.res (by omega)) (Ev.pos (by omega) ?_))
 refine aM7 (fun k out i=>t7.l0 k w.s w.r w.d w.L w.N w.E w.a w.A w.net w.now w.res w.file (w.L,w.N,w.E,w.a,w.A) w.res out i) w.s ?_ ?_
 ·refine Ev.step (fun _=>rfl) ?_
  simp only [t7.l0]
  refine Ev.neg (by omega) ?_
  refine aM7 (fun k out i=>t7.l1 k w.s w.r w.d w.L w.N w.E w.a w.A w.net w.now w.res w.file (w.L,w.N,w.E,w.a,w.A) w.res w.s out i) w.r ?_ ?_
  ·refine Ev.step (fun _=>rfl) ?_
   simp only [t7.l1]
   refine Ev.neg (by omega) ?_
   refine aM7 (fun k out i=>t7.l2 k w.d w.net w.now w.file (w.L,w.N,w.E,w.a,w.A) w.res w.s w.r out i) w.d ?_ ?_
   ·refine Ev.step (fun _=>rfl) ?_
    simp only [t7.l2]
    exact Ev.neg (by omega) (Ev.now _)
   ·intro i x out r hx ho hh
    have hi:=G7 hx
    have hf:=Q3 (h.dD x (List.mem_of_getElem? hx))
    refine Ev.step (fun _=>rfl) ?_
    simp only [t7.l2,rSd hx]
    rw [m7 (x:=(i : Int) + 1) (by omega) (by omega)]
    exact Ev.pos (by omega) (Ev.pos (by omega) (Ev.bindc (X1 x.f0 x.f1 x.f2 x.f3 x.f4 (by omega)) (Ev.pos (by first | omega | (simp only [List.length_cons,List.length_nil];omega)) hh)))
  ·intro i x out r hx ho hh
   have hi:=G7 hx
   have hf:=R2 (h.rR x (List.mem_of_getElem? hx))
   refine Ev.step (fun _=>rfl) ?_
   simp only [t7.l1,rRg hx]
   rw [m7 (x:=(i : Int) + 1) (by omega) (by omega)]
   exact Ev.pos (by omega) (Ev.pos (by omega) (Ev.bindc (ab4 x.f0 x.f1 x.f2 x.f3 (by omega)) (Ev.pos (by first | omega | (simp only [List.length_cons,List.length_nil];omega)) hh)))
 ·intro i x out r hx ho hh
  have hi:=G7 hx
  refine Ev.step (fun _=>rfl) ?_
  simp only [t7.l0,aH9 hx]
  rw [m7 (x:=(i : Int) + 1) (by omega) (by omega)]
  exact Ev.pos (by omega) (Ev.pos (by omega) (Ev.bind (au2 x (h.st (List.mem_of_getElem? hx)).2.2) (Ev.pos (by first | omega | (simp only [List.length_cons,List.length_nil];omega)) hh)))
def bT3 (w : Wv) (p n lo : Int) (o : List It×Int×Int×Int×Bool) : Int×Wv:=(if o.2.2.2.2 = true then 0 else 1,{ w with r:=w.r.set p.toNat ⟨o.1,o.2.1,o.2.2.1,o.2.2.2.1⟩,file:=w.file ++ [⟨p,n,lo,o.2.2.2.2⟩] })
def y3 (w : Wv) (p : Int) : Rg:=w.r.getD p.toNat z50
def o9 (w : Wv) (p : Int) : Sd:=w.d.getD p.toNat z48
def aL8 (w : Wv) (p a n : Int) (l : List Wd) : Int×Wv:=
 if aK6 (al0 (w.s.getD p.toNat []) a n l) = 4 then bT3 { w with res:=w.res ++ [al0 (w.s.getD p.toNat []) a n l] } p n (l.getD 0 ah4).f1 (af6 (y3 w p).f0 (y3 w p).f1 (y3 w p).f2 (y3 w p).f3 n (l.getD 0 ah4).f1)
 else (0,{ w with res:=w.res ++ [al0 (w.s.getD p.toNat []) a n l] })
theorem aA0 (b : Bool) : W9.f b = some (if b = true then 0 else 1):=by unfold W9.f;cases b <;> rfl
theorem bp4 {w : Wv} (h : WB w) {p : Int} (p0 : 0≤p) (p3 : p < 3) (a n : Int) (l : List Wd) (hl : l.length = 3) : Ev (fun k=>T5.f k w.s w.r w.d w.L w.N w.E w.a w.A w.net w.now w.res w.file p a n l) ((aL8 w p a n l).1,tw (aL8 w p a n l).2):=by
 have s3:=h.s3;have r3:=h.r3;have re:=h.re;have fi:=h.fi
 have hs:=h.st (ad1 (z:=[]) p0 (by omega : p < (w.s.length : Int)))
 have e:=aR4 _ hs.2.2 a n l (by omega)
 have hr:=R2 (h.rR _ (ad1 (z:=z50) p0 (by omega : p < (w.r.length : Int))))
 have eo:=ba2 (y3 w p).f0 (y3 w p).f1 (y3 w p).f2 (y3 w p).f3 n (l.getD 0 ah4).f1 (by unfold y3;omega)
 have es : w.s.set p.toNat (M0 [] w.s p) = w.s:=bw3 p0 (by omega)
 unfold T5.f aL8
 refine Ev.pos p0 (Ev.pos (by omega) (Ev.bind e (Ev.pos (by simp only [List.length_cons,List.length_nil];omega) (Ev.bindc (al3 _) ?_))))
 try rw [es]
 by_cases h4 : aK6 (al0 (w.s.getD p.toNat []) a n l) = 4
 ·refine Ev.pos h4 ?_
  rw [if_pos h4]
  refine Ev.pos (by omega) (Ev.pos (by omega) (Ev.bind eo (Ev.pos (by simp only [List.length_cons,List.length_nil];omega) (Ev.bindc (aA0 _) (Ev.now _)))))
 ·refine Ev.neg h4 ?_
  rw [if_neg h4]
  exact Ev.now _
def aC9 (t : ByteArray) : List Iw×Int:=aS3 (af1 t).1 (af1 t).2.1 (af1 t).2.2.1 (af1 t).2.2.2.1
def aM9 (w : Wv) (p : Int) (t : ByteArray) : Int×Wv:=
 if (af1 t).2.2.2.2 = true∧(aC9 t).2 = 0 then (if (aL6 (w.s.getD p.toNat []) (aw6 (aC9 t).1)).2 = true then 0 else 1,{ w with s:=w.s.set p.toNat (aL6 (w.s.getD p.toNat []) (aw6 (aC9 t).1)).1 }) else (1,w)
theorem bI1 (t : ByteArray) : (aC9 t).1.length≤400:=bE4 _ _ _ _
theorem bq9 {w : Wv} (h : WB w) {p : Int} (p0 : 0≤p) (p3 : p < 3) (t : ByteArray) (hsm : Sm (af1 t).2.2.2.1) : Ev (fun k=>U4.f k w.s w.r w.d w.L w.N w.E w.a w.A w.net w.now w.res w.file p t) ((aM9 w p t).1,tw (aM9 w p t).2):=by
 have s3:=h.s3
 have hs:=h.st (ad1 (z:=[]) p0 (by omega : p < (w.s.length : Int)))
 have hl:=bI1 t
 have hz:=bx6 (aC9 t).1
 have e1:=aG6 t
 have e2 : Ev (fun k=>W5.f k (af1 t).1 (af1 t).2.1 (af1 t).2.2.1 (af1 t).2.2.2.1) (aC9 t):=aW2 _ _ _ _ hsm
 have e3:=bf1 (aC9 t).1 (by omega)
 have e4:=aN9 (w.s.getD p.toNat []) (aw6 (aC9 t).1) ⟨by omega,fun x hx=>by have:=hs.2.1 x hx;omega⟩ (by omega)
 unfold U4.f aM9
 refine Ev.bind e1 (Ev.bind e2 ?_)
 by_cases h1 : (af1 t).2.2.2.2 = true
 ·refine Ev.pos h1 ?_
  by_cases h2 : (aC9 t).2 = 0
  ·refine Ev.pos h2 ?_
   rw [if_pos ⟨h1,h2⟩]
   exact Ev.pos p0 (Ev.pos (by omega) (Ev.bind e3 (Ev.bind e4 (Ev.bindc (aA0 _) (Ev.now _)))))
  ·refine Ev.neg h2 ?_
   rw [if_neg (fun h=>h2 h.2)];exact Ev.now _
 ·refine Ev.neg h1 ?_
  rw [if_neg (fun h=>h1 h.1)];exact Ev.now _
def bb0 (n : Int) (y : Rg) : Rg:=⟨y.f0,min 5 (y.f1 + n),y.f2,y.f3⟩
def aj8 (w : Wv) (n : Int) : Wv:={ w with now:=w.now + n,r:=w.r.map (bb0 n) }
theorem bR6 {α : Type} (f : α→α) (l : List α) {i : Nat} {x : α} (hx : l[i]? = some x) : ((l.take i).map f ++ l.drop i)[i]? = some x∧((l.take i).map f ++ l.drop i).set i (f x) = (l.take (i + 1)).map f ++ l.drop (i + 1):=by
 have hi:=G7 hx
 have hl : ((l.take i).map f).length = i:=by rw [List.length_map,List.length_take];omega
 constructor
 ·rw [List.getElem?_append_right (by omega),hl,Nat.sub_self,List.getElem?_drop];exact hx
 ·rw [List.set_append_right _ _ (by omega),hl,Nat.sub_self,← bD8 hx,List.map_append,List.append_assoc]
  congr 1
  rw [List.drop_eq_getElem_cons hi]
  have : l[i] = x:=by rw [List.getElem?_eq_getElem hi] at hx;exact Option.some.inj hx
  rw [List.set_cons_zero];rfl
theorem aI6 {w : Wv} (h : WB w) {n : Int} (hn : 0≤n∧n≤5) : Ev (fun k=>C8.f k w.s w.r w.d w.L w.N w.E w.a w.A w.net w.now w.res w.file n) (tw (aj8 w n)):=by
 have r3:=h.r3;have t:=h.t
 unfold C8.f
 have key : ∀ (d i : Nat),w.r.length - i = d→i≤w.r.length→Ev (fun k=>C8.l0 k w.s w.r w.d w.L w.N w.E w.a w.A w.net w.now w.res w.file n ((w.r.take i).map (bb0 n) ++ w.r.drop i) (i : Int)) (tw (aj8 w n)):=by
  intro d
  induction d with
  | zero=>
   intro i hd hi
   refine Ev.step (fun _=>rfl) ?_
   simp only [C8.l0]
   refine Ev.neg (by omega) ?_
   rw [m7 (x:=w.now + n) (by omega) (by omega),List.take_of_length_le (by omega),List.drop_of_length_le (by omega),List.append_nil]
   exact Ev.now _
  | succ d ih=>
   intro i hd hi
   have hx : w.r[i]? = some w.r[i]:=List.getElem?_eq_getElem (by omega)
   obtain ⟨m1,m2⟩:=bR6 (bb0 n) w.r hx
   have hr:=R2 (h.rR _ (List.mem_of_getElem? hx))
   have e:=aT7 w.r[i].f0 w.r[i].f1 w.r[i].f2 w.r[i].f3 n (by omega) hr.2.1 hn
   refine Ev.step (fun _=>rfl) ?_
   simp only [C8.l0]
   rw [rRg m1,m7 (x:=(i : Int) + 1) (by omega) (by omega),Int.toNat_natCast]
   refine Ev.pos (by omega) (Ev.pos (by omega) (Ev.pos (by rw [List.length_append,List.length_map,List.length_take,List.length_drop];omega) (Ev.bind e ?_)))
   have:=ih (i + 1) (by omega) (by omega)
   rw [← m2] at this
   exact this
 have:=key w.r.length 0 rfl (Nat.zero_le _)
 simpa using this
def tkS (t : Int×Int×List It×Int×Int×List It×Int×Int×Int×Bool) : Sd:=⟨t.1,t.2.1,t.2.2.1,t.2.2.2.1,t.2.2.2.2.1⟩
def tkR (t : Int×Int×List It×Int×Int×List It×Int×Int×Int×Bool) : Rg:=⟨t.2.2.2.2.2.1,t.2.2.2.2.2.2.1,t.2.2.2.2.2.2.2.1,t.2.2.2.2.2.2.2.2.1⟩
def tkV (s : Sd) (r : Rg) (now : Int) : Int×Int×List It×Int×Int×List It×Int×Int×Int×Bool:=ar0 s.f0 s.f1 s.f2 s.f3 s.f4 r.f0 r.f1 r.f2 r.f3 now
def Q1 (w : Wv) (p : Int) : Bool×Wv:=((tkV (o9 w p) (y3 w p) w.now).2.2.2.2.2.2.2.2.2,{ w with d:=w.d.set p.toNat (tkS (tkV (o9 w p) (y3 w p) w.now)),r:=w.r.set p.toNat (tkR (tkV (o9 w p) (y3 w p) w.now)) })
theorem ax2 {w : Wv} (h : WB w) {p : Int} (p0 : 0≤p) (p3 : p < 3) : Ev (fun k=>O8.f k w.s w.r w.d w.L w.N w.E w.a w.A w.net w.now w.res w.file p) ((Q1 w p).1,tw (Q1 w p).2):=by
 have r3:=h.r3;have d3:=h.d3
 have hr:=R2 (h.rR _ (ad1 (z:=z50) p0 (by omega : p < (w.r.length : Int))))
 have hd:=Q3 (h.dD _ (ad1 (z:=z48) p0 (by omega : p < (w.d.length : Int))))
 unfold O8.f
 exact Ev.pos p0 (Ev.pos (by omega) (Ev.pos (by omega) (Ev.bind (be5 (o9 w p).f0 (o9 w p).f1 (o9 w p).f2 (o9 w p).f3 (o9 w p).f4 (y3 w p).f0 (y3 w p).f1 (y3 w p).f2 (y3 w p).f3 w.now (by unfold o9;omega) (by unfold y3;omega)) (Ev.now _))))
def as2 (w : Wv) (l : Lt) : Wv:=if w.net.length < 10 then { w with net:=w.net ++ [l] } else w
theorem aF4 {w : Wv} (h : w.net.length≤10) (l : Lt) : N8.f w.s w.r w.d w.L w.N w.E w.a w.A w.net w.now w.res w.file l.f0 l.f1 l.f2 = some (tw (as2 w l)):=by
 unfold N8.f as2
 by_cases h1 : w.net.length < 10
 ·rw [if_pos (by omega),if_pos (by simp only [List.length_cons,List.length_nil];omega),if_pos h1];rfl
 ·rw [if_neg (by omega),if_neg h1];rfl
theorem rFr {l : List P9} {i : Nat} {x : P9} (h : l[i]? = some x) : Z4 l (i : Int) = x:=by
 unfold Z4;simpa using J8 l z88 h
def frX (f : P9) : ByteArray:=frT f.f0 f.f1 f.f2 f.f3.f0 f.f3.f1 f.f3.f2 f.f3.f3
def ae0 (f : P9) : Bool:=ad7 f.f0 f.f1 f.f2 f.f3.f0 f.f3.f1 f.f3.f2 f.f3.f3
def bA2 (w : Wv) (fs : List P9) : Wv:=fs.foldl (fun w f=>as2 w ⟨false,frX f,false⟩) w
theorem bL9 (w : Wv) (l : Lt) (h : w.net.length≤10) : (as2 w l).net.length≤10:=by
 unfold as2
 split
 ·simp only [List.length_append,List.length_cons,List.length_nil];omega
 ·exact h
theorem bj6 (fs : List P9) (hf : ∀ f ∈ fs,ae0 f = true) (hl : fs.length≤1000) : ∀ (d i : Nat) (w : Wv),fs.length - i = d→i≤fs.length→w.net.length≤10→Ev (fun k=>B2.l0 k fs w.s w.r w.d w.L w.N w.E w.a w.A w.net w.now w.res w.file (i : Int)) (0,tw (bA2 w (fs.drop i))):=by
 intro d
 induction d with
 | zero=>
  intro i w hd hi hw
  refine Ev.step (fun _=>rfl) ?_
  simp only [B2.l0]
  rw [List.drop_of_length_le (by omega)]
  exact Ev.neg (by omega) (Ev.now _)
 | succ d ih=>
  intro i w hd hi hw
  have hx : fs[i]? = some fs[i]:=List.getElem?_eq_getElem (by omega)
  have e:=aw1 (hf _ (List.getElem_mem (show i < fs.length by omega)))
  refine Ev.step (fun _=>rfl) ?_
  simp only [B2.l0]
  rw [rFr hx,m7 (x:=(i : Int) + 1) (by omega) (by omega),List.drop_eq_getElem_cons (by omega)]
  refine Ev.pos (by omega) (Ev.pos (by omega) (Ev.bind e (Ev.bindc (aF4 hw ⟨false,frX fs[i],false⟩) ?_)))
  exact ih (i + 1) (as2 w ⟨false,frX fs[i],false⟩) (by omega) (by omega) (bL9 _ _ hw)
def agS (t : Int×Int×List It×Int×Int×Bool) : Sd:=⟨t.1,t.2.1,t.2.2.1,t.2.2.2.1,t.2.2.2.2.1⟩
def U0 (s : Sd) (now : Int) : Int×Int×List It×Int×Int×Bool:=av7 s.f0 s.f1 s.f2 s.f3 s.f4 now
def an5 (s : Sd) : List P9:=aL2 s.f0 s.f1 s.f2 s.f3 s.f4
def aY2 (w : Wv) (p : Int) (odd : Bool) : Int×Wv:=
 if (U0 (o9 w p) w.now).2.2.2.2.2 = true∨odd = true then (0,bA2 { w with d:=w.d.set p.toNat (agS (U0 (o9 w p) w.now)) } (an5 (agS (U0 (o9 w p) w.now))))
 else (1,{ w with d:=w.d.set p.toNat (agS (U0 (o9 w p) w.now)) })
theorem aR7 (p n : Int) : ∀ (l : List It) (s : List P9),ab7 (aB5 p n) id l s = s ++ l.zipIdx.map (fun y=>⟨1,p,n + (s.length : Int) + (y.2 : Int),y.1⟩)
 | [],s=>by simp [ab7]
 | x :: r,s=>by
  rw [ao3 r (show aB5 p n s x = .ok (s ++ [⟨1,p,n + (s.length : Int),x⟩]) from rfl),aR7 p n r]
  rw [List.zipIdx_cons,List.map_cons,List.append_assoc]
  congr 1
  rw [List.singleton_append]
  refine List.cons_eq_cons.2 ⟨?_,?_⟩
  ·congr 1;simp
  ·rw [List.zipIdx_succ,List.map_map]
   refine List.map_congr_left (fun y _=>?_)
   simp only [Function.comp,List.length_append,List.length_cons,List.length_nil]
   congr 1
   omega
theorem aQ8 {s : Sd} (h : E3 s.f0 s.f1 s.f2 s.f3 s.f4 = true) : an5 s = s.f2.zipIdx.map (fun y=>⟨1,s.f0,s.f1 + (y.2 : Int),y.1⟩):=by
 unfold an5 aL2
 rw [if_pos h,aR7]
 simp
theorem aP0 {s : Sd} (h : E3 s.f0 s.f1 s.f2 s.f3 s.f4 = true) (hb : s.f1≤1000000) : ∀ f ∈ an5 s,ae0 f = true:=by
 intro f hf
 rw [aQ8 h] at hf
 obtain ⟨y,hy,rfl⟩:=List.mem_map.1 hf
 obtain ⟨h1,h2,h3,h4,_⟩:=Q3 h
 have hj:=List.mem_zipIdx hy
 have hi : I3 y.1 = true:=List.all_eq_true.1 h1 _ (by rw [hj.2.2];exact List.getElem_mem _)
 unfold ae0 ad7
 simp only [Bool.and_eq_true,decide_eq_true_eq]
 refine ⟨h2,by omega,?_⟩
 exact (if_pos trivial).trans hi
theorem bg6 {s : Sd} {now : Int} (h : E3 s.f0 s.f1 s.f2 s.f3 s.f4 = true) (hn : 0≤now∧now≤1000000000) : E3 (agS (U0 s now)).f0 (agS (U0 s now)).f1 (agS (U0 s now)).f2 (agS (U0 s now)).f3 (agS (U0 s now)).f4 = true∧(agS (U0 s now)).f0 = s.f0∧(agS (U0 s now)).f1 = s.f1∧(agS (U0 s now)).f2 = s.f2:=by
 unfold agS U0 av7
 by_cases hc : E3 s.f0 s.f1 s.f2 s.f3 s.f4 = true∧s.f2.length≠0∧s.f3 + s.f4≤now
 ·rw [if_pos hc]
  refine ⟨?_,rfl,rfl,rfl⟩
  obtain ⟨h1,h2⟩:=ah2 h
  unfold E3
  rw [Bool.and_eq_true]
  refine ⟨h1,decide_eq_true ?_⟩
  dsimp only
  omega
 ·rw [if_neg hc];exact ⟨h,rfl,rfl,rfl⟩
theorem bw0 {w : Wv} (h : WB w) {p : Int} (p0 : 0≤p) (p3 : p < 3) (odd : Bool) (hb : (o9 w p).f1≤1000000) : Ev (fun k=>B2.f k w.s w.r w.d w.L w.N w.E w.a w.A w.net w.now w.res w.file p odd) ((aY2 w p odd).1,tw (aY2 w p odd).2):=by
 have d3:=h.d3;have t:=h.t
 have hs:=h.dD _ (ad1 (z:=z48) p0 (by omega : p < (w.d.length : Int)))
 have hd:=Q3 hs
 have ea : Ev (fun k=>U1.f k (o9 w p).f0 (o9 w p).f1 (o9 w p).f2 (o9 w p).f3 (o9 w p).f4 w.now) (U0 (o9 w p) w.now):=aF9 _ _ _ _ _ _ (by unfold o9;omega) (by omega)
 obtain ⟨g1,g2,g3,g4⟩:=bg6 (s:=o9 w p) (now:=w.now) hs (by omega)
 have es:=aH6 (agS (U0 (o9 w p) w.now)).f0 (agS (U0 (o9 w p) w.now)).f1 (agS (U0 (o9 w p) w.now)).f2 (agS (U0 (o9 w p) w.now)).f3 (agS (U0 (o9 w p) w.now)).f4 (by rw [g4];unfold o9;omega)
 have hlen:=bh4 (agS (U0 (o9 w p) w.now)).f0 (agS (U0 (o9 w p) w.now)).f1 (agS (U0 (o9 w p) w.now)).f2 (agS (U0 (o9 w p) w.now)).f3 (agS (U0 (o9 w p) w.now)).f4
 have hl2 : (agS (U0 (o9 w p) w.now)).f2.length≤3:=by rw [g4];unfold o9;omega
 have el:=bj6 (an5 (agS (U0 (o9 w p) w.now))) (aP0 g1 (by rw [g3];exact hb)) (by unfold an5;omega) _ 0 { w with d:=w.d.set p.toNat (agS (U0 (o9 w p) w.now)) } rfl (Nat.zero_le _) h.n10
 have j0 : Ev (fun k=>B2.j0 k w.s w.r w.d w.L w.N w.E w.a w.A w.net w.now w.res w.file p (U0 (o9 w p) w.now)) (0,tw (bA2 { w with d:=w.d.set p.toNat (agS (U0 (o9 w p) w.now)) } (an5 (agS (U0 (o9 w p) w.now))))):=by
  refine Ev.step (fun _=>rfl) ?_
  simp only [B2.j0]
  exact Ev.bind es el
 unfold B2.f aY2
 refine Ev.pos p0 (Ev.pos (by omega) (Ev.bind ea ?_))
 by_cases h1 : (U0 (o9 w p) w.now).2.2.2.2.2 = true
 ·rw [if_pos (.inl h1)];exact Ev.pos h1 j0
 ·refine Ev.neg h1 ?_
  by_cases h2 : odd = true
  ·rw [if_pos (.inr h2)];exact Ev.pos h2 j0
  ·rw [if_neg (fun h=>h.elim h1 h2)];exact Ev.neg h2 (Ev.now _)
def tkA (s : Sd) (q : Int) : Sd:=⟨(ak2 s.f0 s.f1 s.f2 s.f3 s.f4 q).1,(ak2 s.f0 s.f1 s.f2 s.f3 s.f4 q).2.1,(ak2 s.f0 s.f1 s.f2 s.f3 s.f4 q).2.2.1,(ak2 s.f0 s.f1 s.f2 s.f3 s.f4 q).2.2.2.1,(ak2 s.f0 s.f1 s.f2 s.f3 s.f4 q).2.2.2.2⟩
def bw8 (l : Lt) : Prop:=(l.f2 = false∧∃ f : P9,ae0 f = true∧l.f1 = frX f)∨(l.f2 = true∧l.f1.size≤30∧(as3 l.f1).2 = false)
def I4 (w : Wv) (back : Bool) (f : P9) : Wv:=
 if back = true then (if f.f0 = 2 then { w with d:=w.d.set f.f1.toNat (tkA (o9 w f.f1) f.f2) } else w)
 else { w with L:=(ai7 w.L w.N w.E w.a w.A f.f0 f.f1 f.f2 f.f3.f0 f.f3.f1 f.f3.f2 f.f3.f3).1,N:=(ai7 w.L w.N w.E w.a w.A f.f0 f.f1 f.f2 f.f3.f0 f.f3.f1 f.f3.f2 f.f3.f3).2.1,E:=(ai7 w.L w.N w.E w.a w.A f.f0 f.f1 f.f2 f.f3.f0 f.f3.f1 f.f3.f2 f.f3.f3).2.2.1,a:=(ai7 w.L w.N w.E w.a w.A f.f0 f.f1 f.f2 f.f3.f0 f.f3.f1 f.f3.f2 f.f3.f3).2.2.2.1,A:=(ai7 w.L w.N w.E w.a w.A f.f0 f.f1 f.f2 f.f3.f0 f.f3.f1 f.f3.f2 f.f3.f3).2.2.2.2.1 }
theorem aU5 {w : Wv} (h : WB w) (f : P9) (hf : ae0 f = true) (back bent : Bool) : Ev (fun k=>O4.f k w.s w.r w.d w.L w.N w.E w.a w.A w.net w.now w.res w.file back (frX f) bent) (tw (I4 w back f)):=by
 have d3:=h.d3
 have e:=al1 hf
 obtain ⟨r1,_,_⟩:=ai3 hf
 unfold O4.f I4
 refine Ev.bind e (Ev.pos rfl ?_)
 cases back with
 | true=>
  rw [if_pos rfl]
  refine Ev.pos rfl ?_
  by_cases h2 : f.f0 = 2
  ·rw [if_pos h2]
   have hd:=Q3 (h.dD _ (ad1 (z:=z48) r1.1 (by omega : f.f1 < (w.d.length : Int))))
   exact Ev.pos h2 (Ev.pos r1.1 (Ev.pos (by dsimp only;omega) (Ev.bind (aF8 (o9 w f.f1).f0 (o9 w f.f1).f1 (o9 w f.f1).f2 (o9 w f.f1).f3 (o9 w f.f1).f4 f.f2 (by unfold o9;omega)) (Ev.now _))))
  ·rw [if_neg h2];exact Ev.neg h2 (Ev.now _)
 | false=>
  rw [if_neg (by decide)]
  exact Ev.neg (by decide) (Ev.bind (aO4 h.k w.a f.f0 f.f1 f.f2 f.f3.f0 f.f3.f1 f.f3.f2 f.f3.f3) (Ev.now _))
theorem aX5 {w : Wv} {t : ByteArray} (hz : t.size≤1048576) (ht : (as3 t).2 = false) (back bent : Bool) : Ev (fun k=>O4.f k w.s w.r w.d w.L w.N w.E w.a w.A w.net w.now w.res w.file back t bent) (tw w):=by
 unfold O4.f
 exact Ev.bind (aH2 hz ht) (Ev.neg (by decide) (Ev.now _))
end Go.Proofs.YtahmbcgolnplgaaGreat.PFnNoHoles
namespace Go.Proofs.YtahmbcgolnplgaaGreat.PFnNoHoles
open Go Go.RowKit Go.Proofs.YtahmbcgolnplgaaGreatA Go.Proofs.YtahmbcgolnplgaaGreatL
abbrev Evt:=A6
theorem bJ2 (t : ByteArray) : Sm (af1 t).2.2.2.1:=by
 unfold af1
 split
 ·exact bu7 _ (aS0 t)
 ·exact ⟨Nat.zero_le _,fun x hx=>by cases hx⟩
def V9 (e : Evt) : Bool:=decide (1≤e.f0∧e.f0≤12) && (decide (0≤e.f1) && (decide (0≤e.f2) && ((if e.f0 = 1 then X6 e.f3.f0 e.f3.f1 e.f3.f2 else decide (e.f3.f0 = 0∧e.f3.f1 = 0∧e.f3.f2.length = 0)) && (decide (e.f4.size = 0) || decide (e.f0 = 2∧e.f4.size≤1200)))))
theorem bd5 (t : ByteArray) : (t.toList == ByteArray.empty.toList) = decide (t.size = 0):=by
 by_cases h : t.size = 0
 ·rw [decide_eq_true h]
  have : t = ByteArray.empty:=ByteArray.size_eq_zero_iff.1 h
  subst this;exact aD5.2 rfl
 ·rw [decide_eq_false h]
  refine Bool.eq_false_iff.2 (fun h2=>h ?_)
  rw [aD5.1 h2];rfl
theorem aB2 (e : Evt) (hl : e.f3.f2.length≤1048576) : Ev (fun k=>J0.f k e.f0 e.f1 e.f2 e.f3.f0 e.f3.f1 e.f3.f2 e.f4) (V9 e):=by
 have j0 : Ev (fun k=>J0.j0 k e.f0 e.f1 e.f2 e.f3.f0 e.f3.f1 e.f3.f2 e.f4) (decide (e.f4.size = 0) || decide (e.f0 = 2∧e.f4.size≤1200)):=by
  refine Ev.step (fun _=>rfl) ?_
  simp only [J0.j0,bd5]
  by_cases h : e.f4.size = 0
  ·rw [decide_eq_true h,Bool.true_or];exact Ev.pos rfl (Ev.now _)
  ·rw [decide_eq_false h,Bool.false_or]
   refine Ev.neg (by decide) ?_
   by_cases h2 : e.f0 = 2
   ·refine Ev.pos h2 (Ev.some_ ?_)
    by_cases h3 : e.f4.size≤1200
    ·rw [decide_eq_true (show (e.f4.size : Int)≤1200 by omega),decide_eq_true ⟨h2,h3⟩]
    ·rw [decide_eq_false (show ¬ (e.f4.size : Int)≤1200 by omega),decide_eq_false (show ¬ (e.f0 = 2∧e.f4.size≤1200) from fun h=>h3 h.2)]
   ·rw [decide_eq_false (show ¬ (e.f0 = 2∧e.f4.size≤1200) from fun h=>h2 h.1)];exact Ev.neg h2 (Ev.now _)
 unfold J0.f V9
 generalize (decide (e.f4.size = 0) || decide (e.f0 = 2∧e.f4.size≤1200)) = z at j0
 refine Ev.bindc (M2 _ _ _) ?_
 by_cases h1 : 1≤e.f0∧e.f0≤12
 ·rw [decide_eq_true h1,Bool.true_and]
  refine Ev.pos rfl ?_
  by_cases h2 : e.f1 < 0
  ·rw [decide_eq_false (show ¬ 0≤e.f1 by omega)];exact Ev.pos h2 (Ev.now _)
  ·rw [decide_eq_true (show 0≤e.f1 by omega),Bool.true_and]
   refine Ev.neg h2 ?_
   by_cases h3 : e.f2 < 0
   ·rw [decide_eq_false (show ¬ 0≤e.f2 by omega)];exact Ev.pos h3 (Ev.now _)
   ·rw [decide_eq_true (show 0≤e.f2 by omega),Bool.true_and]
    refine Ev.neg h3 ?_
    by_cases h4 : e.f0 = 1
    ·refine Ev.pos h4 (Ev.bind (aj2 _ _ _ hl) ?_)
     rw [if_pos h4]
     by_cases h5 : X6 e.f3.f0 e.f3.f1 e.f3.f2 = true
     ·rw [h5,Bool.true_and];exact Ev.pos rfl j0
     ·rw [Bool.eq_false_iff.2 h5,Bool.false_and];exact Ev.neg (by decide) (Ev.now _)
    ·refine Ev.neg h4 ?_
     rw [if_neg h4]
     by_cases h5 : e.f3.f0 = 0
     ·refine Ev.pos h5 ?_
      by_cases h6 : e.f3.f1 = 0
      ·refine Ev.pos h6 ?_
       by_cases h7 : e.f3.f2.length = 0
       ·rw [decide_eq_true ⟨h5,h6,h7⟩,Bool.true_and];exact Ev.neg (by omega) j0
       ·rw [decide_eq_false (fun h=>h7 h.2.2),Bool.false_and];exact Ev.pos (by omega) (Ev.now _)
      ·rw [decide_eq_false (fun h=>h6 h.2.1),Bool.false_and];exact Ev.neg h6 (Ev.now _)
     ·rw [decide_eq_false (fun h=>h5 h.1),Bool.false_and];exact Ev.neg h5 (Ev.now _)
 ·rw [decide_eq_false h1,Bool.false_and];exact Ev.neg (by decide) (Ev.now _)
theorem aL5 {e : Evt} (h : V9 e = true) : (1≤e.f0∧e.f0≤12)∧0≤e.f1∧0≤e.f2∧(e.f0 = 1→X6 e.f3.f0 e.f3.f1 e.f3.f2 = true)∧e.f4.size≤1200:=by
 unfold V9 at h
 simp only [Bool.and_eq_true,Bool.or_eq_true,decide_eq_true_eq] at h
 obtain ⟨h1,h2,h3,h4,h5⟩:=h
 refine ⟨h1,h2,h3,fun h=>by rw [if_pos h] at h4;exact h4,by omega⟩
structure WS (w : Wv) : Prop where
 b : WB w
 N3 : w.N.length = 3
 A3 : w.A.length = 3
 aR : ∀ v ∈ w.A,1≤v∧v≤1000000
 sR : ∀ y ∈ w.d,y.f1≤1000000
 net : ∀ l ∈ w.net,bw8 l
def Y5 (w : Wv) (i : Nat) : Lt:=w.net.getD i bx1
def ax0 (w : Wv) (i : Nat) : Wv:={ w with net:=w.net.take i ++ w.net.drop (i + 1) }
def bx3 (t : ByteArray) (a : Int) : ByteArray:=strOfNums ((s9 t).set (a % (t.size : Int)).toNat (((rd (s9 t) (a % (t.size : Int))) + 1) % 256))
def ak6 (w : Wv) : Wv:={ w with a:=(w.L.length : Int),A:=w.N }
def aZ2 (w : Wv) : Wv:={ w with L:=(aK2 w.L w.a w.A).1,N:=w.A,E:=[] }
def aY9 (w : Wv) (p : Int) : P9:=⟨2,p,rd w.A p,⟨0,0,0,0⟩⟩
inductive X7 (w : Wv) (e : Evt) : Int×Wv→Prop
 | call : e.f0 = 1→X7 w e (aL8 w (e.f1 % 3) e.f3.f0 e.f3.f1 e.f3.f2)
 | push : e.f0 = 2→X7 w e (aM9 w (e.f1 % 3) e.f4)
 | tick : e.f0 = 3→X7 w e (0,aj8 w (e.f2 % 5))
 | drain : e.f0 = 4→X7 w e (if (Q1 w (e.f1 % 3)).1 = true then 0 else 1,(Q1 w (e.f1 % 3)).2)
 | say : e.f0 = 5→X7 w e (aY2 w (e.f1 % 3) (e.f2 % 2 == 1))
 | save : e.f0 = 10→X7 w e (0,ak6 w)
 | fall : e.f0 = 11→X7 w e (0,aZ2 w)
 | ack : e.f0 = 12→X7 w e (0,as2 w ⟨true,frX (aY9 w (e.f1 % 3)),false⟩)
 | none : 6≤e.f0∧e.f0≤9→(w.net.length : Int)≤e.f2 % 12→X7 w e (1,w)
 | lose (i : Nat) : e.f0 = 7→e.f2 % 12 = i→i < w.net.length→X7 w e (0,ax0 w i)
 | good (i : Nat) (f : P9) : e.f0 = 6→e.f2 % 12 = i→i < w.net.length→(Y5 w i).f2 = false→ae0 f = true→(Y5 w i).f1 = frX f→X7 w e (0,I4 (ax0 w i) (Y5 w i).f0 f)
 | bad (i : Nat) : e.f0 = 6→e.f2 % 12 = i→i < w.net.length→(Y5 w i).f2 = true→X7 w e (0,ax0 w i)
 | twice (i : Nat) : e.f0 = 8→e.f2 % 12 = i→i < w.net.length→X7 w e (0,as2 w (Y5 w i))
 | stay (i : Nat) : e.f0 = 9→e.f2 % 12 = i→i < w.net.length→(Y5 w i).f2 = true→X7 w e (1,w)
 | spoil (i : Nat) : e.f0 = 9→e.f2 % 12 = i→i < w.net.length→(Y5 w i).f2 = false→X7 w e (0,{ w with net:=w.net.set i ⟨(Y5 w i).f0,bx3 (Y5 w i).f1 e.f1,true⟩ })
theorem ao4 {w : Wv} {i : Nat} (h : i < w.net.length) : Y5 w i ∈ w.net:=by
 unfold Y5
 rw [List.getD_eq_getElem?_getD,List.getElem?_eq_getElem h,Option.getD_some];exact List.getElem_mem _
theorem bR8 {w : Wv} (h : WS w) {e : Evt} (he : V9 e = true) : ∃ r,X7 w e r:=by
 obtain ⟨h1,h2,h3,_⟩:=aL5 he
 by_cases k : 6≤e.f0∧e.f0≤9
 ·by_cases hi : (w.net.length : Int)≤e.f2 % 12
  ·exact ⟨_,.none k hi⟩
  ·obtain ⟨i,hi2⟩ : ∃ i : Nat,e.f2 % 12 = i:=⟨(e.f2 % 12).toNat,by omega⟩
   have hl : i < w.net.length:=by omega
   have ho:=h.net _ (ao4 hl)
   obtain k6 | k7 | k8 | k9 : e.f0 = 6∨e.f0 = 7∨e.f0 = 8∨e.f0 = 9:=by omega
   ·rcases ho with ⟨o1,f,o2,o3⟩ | ⟨o1,_⟩
    ·exact ⟨_,.good i f k6 hi2 hl o1 o2 o3⟩
    ·exact ⟨_,.bad i k6 hi2 hl o1⟩
   ·exact ⟨_,.lose i k7 hi2 hl⟩
   ·exact ⟨_,.twice i k8 hi2 hl⟩
   ·rcases ho with ⟨o1,_⟩ | ⟨o1,_⟩
    ·exact ⟨_,.spoil i k9 hi2 hl o1⟩
    ·exact ⟨_,.stay i k9 hi2 hl o1⟩
 ·obtain k | k | k | k | k | k | k | k : e.f0 = 1∨e.f0 = 2∨e.f0 = 3∨e.f0 = 4∨e.f0 = 5∨e.f0 = 10∨e.f0 = 11∨e.f0 = 12:=by omega
  ·exact ⟨_,.call k⟩
  ·exact ⟨_,.push k⟩
  ·exact ⟨_,.tick k⟩
  ·exact ⟨_,.drain k⟩
  ·exact ⟨_,.say k⟩
  ·exact ⟨_,.save k⟩
  ·exact ⟨_,.fall k⟩
  ·exact ⟨_,.ack k⟩
theorem rLt (w : Wv) (i : Nat) : E2 w.net (i : Int) = Y5 w i:=by unfold E2 Y5;rw [Int.toNat_natCast]
theorem bw8.size {l : Lt} (h : bw8 l) : l.f1.size≤30:=by
 rcases h with ⟨_,f,_,h⟩ | ⟨_,h,_⟩
 ·rw [h];exact (bk2 _ _ _ _ _ _ _).1
 ·exact h
theorem bB2 {f : P9} : (frX f).size≠0:=by
 unfold frX frT
 rw [aD7,ByteArray.size_append,P4];omega
theorem WS.cut {w : Wv} (h : WS w) (i : Nat) : WB (ax0 w i):=by
 have hl:=h.b.n10
 refine ⟨h.b.s3,h.b.sS,h.b.r3,h.b.rR,h.b.d3,h.b.dD,h.b.k,?_,?_,h.b.t,h.b.re,h.b.fi⟩
 ·unfold ax0;simp only [List.length_append,List.length_take,List.length_drop];omega
 ·intro y hy
  unfold ax0 at hy
  rcases List.mem_append.1 hy with hy | hy
  ·exact h.b.nT y (List.mem_of_mem_take hy)
  ·exact h.b.nT y (List.mem_of_mem_drop hy)
theorem bf4 {w : Wv} (h : WS w) {e : Evt} (he : V9 e = true) (hk : 6≤e.f0∧e.f0≤9) {r : Int×Wv} (hr : X7 w e r) : Ev (fun k=>R0.f k w.s w.r w.d w.L w.N w.E w.a w.A w.net w.now w.res w.file e.f0 e.f1 e.f2 e.f3.f0 e.f3.f1 e.f3.f2 e.f4) (r.1,tw r.2):=by
 obtain ⟨_,h1,h2,_⟩:=aL5 he
 have n10:=h.b.n10
 unfold R0.f
 rw [Int.tmod_eq_emod_of_nonneg h2]
 have cut : ∀ i : Nat,(([] : List Lt) ++ List.take i w.net) ++ List.drop (i + 1) w.net = (ax0 w i).net:=fun i=>by rw [List.nil_append];rfl
 have lens : ∀ i : Nat,i < w.net.length→(List.take i w.net).length < 100∧(List.drop (i + 1) w.net).length < 100:=fun i hi=>by rw [List.length_take,List.length_drop];omega
 cases hr with
 | call k | push k | tick k | drain k | say k | save k | fall k | ack k=>omega
 | none _ hi=>exact Ev.pos (by omega) (Ev.now _)
 | lose i k hi hl=>
  obtain ⟨l1,l2⟩:=lens i hl
  rw [hi,m7 (x:=(i : Int) + 1) (by omega) (by omega),Int.toNat_natCast,show ((i : Int) + 1).toNat = i + 1 by omega,cut]
  refine Ev.neg (by omega) (Ev.pos (by omega) (Ev.pos (by omega) (Ev.neg (by omega) (Ev.neg (by omega) (Ev.pos (by omega) (Ev.pos (by simp only [List.length_nil];omega) (Ev.pos (by omega) (Ev.pos (by omega) (Ev.pos (by simp only [List.nil_append];omega) (Ev.neg (by omega) (Ev.now _)))))))))))
 | good i f k hi hl g1 g2 g3=>
  obtain ⟨l1,l2⟩:=lens i hl
  have eh:=aU5 (h.cut i) f g2 (Y5 w i).f0 (Y5 w i).f2
  rw [hi,m7 (x:=(i : Int) + 1) (by omega) (by omega),Int.toNat_natCast,show ((i : Int) + 1).toNat = i + 1 by omega,cut,rLt,g3]
  refine Ev.neg (by omega) (Ev.pos (by omega) (Ev.pos (by omega) (Ev.neg (by omega) (Ev.neg (by omega) (Ev.pos (by omega) (Ev.pos (by simp only [List.length_nil];omega) (Ev.pos (by omega) (Ev.pos (by omega) (Ev.pos (by simp only [List.nil_append];omega) (Ev.pos k (Ev.bind eh (Ev.now _))))))))))))
 | bad i k hi hl g1=>
  obtain ⟨l1,l2⟩:=lens i hl
  have ho:=h.net _ (ao4 hl)
  have hb : (as3 (Y5 w i).f1).2 = false:=by
   rcases ho with ⟨o,_⟩ | ⟨_,_,o⟩
   ·rw [g1] at o;cases o
   ·exact o
  have eh:=aX5 (w:=ax0 w i) (by have:=ho.size;omega) hb (Y5 w i).f0 (Y5 w i).f2
  rw [hi,m7 (x:=(i : Int) + 1) (by omega) (by omega),Int.toNat_natCast,show ((i : Int) + 1).toNat = i + 1 by omega,cut,rLt]
  refine Ev.neg (by omega) (Ev.pos (by omega) (Ev.pos (by omega) (Ev.neg (by omega) (Ev.neg (by omega) (Ev.pos (by omega) (Ev.pos (by simp only [List.length_nil];omega) (Ev.pos (by omega) (Ev.pos (by omega) (Ev.pos (by simp only [List.nil_append];omega) (Ev.pos k (Ev.bind eh (Ev.now _))))))))))))
 | twice i k hi hl=>
  rw [hi,rLt]
  refine Ev.neg (by omega) (Ev.pos (by omega) (Ev.pos (by omega) (Ev.pos k (Ev.bindc (aF4 n10 (Y5 w i)) (Ev.now _)))))
 | stay i k hi hl g1=>
  rw [hi,rLt]
  exact Ev.neg (by omega) (Ev.pos (by omega) (Ev.pos (by omega) (Ev.neg (by omega) (Ev.pos k (Ev.pos g1 (Ev.now _))))))
 | spoil i k hi hl g1=>
  have ho:=h.net _ (ao4 hl)
  have hne : (Y5 w i).f1.size≠0:=by
   rcases ho with ⟨_,f,_,o⟩ | ⟨o,_⟩
   ·rw [o];exact bB2
   ·rw [g1] at o;cases o
  have hz:=ho.size
  have hm:=Int.emod_nonneg e.f1 (show ((Y5 w i).f1.size : Int)≠0 by omega)
  have hm2:=Int.emod_lt_of_pos e.f1 (show (0 : Int) < ((Y5 w i).f1.size : Int) by omega)
  rw [hi,rLt,Int.tmod_eq_emod_of_nonneg h1,x7,IntKind.wrap_u8,Int.toNat_natCast]
  refine Ev.neg (by omega) (Ev.pos (by omega) (Ev.pos (by omega) (Ev.neg (by omega) (Ev.pos k (Ev.neg (by rw [g1];decide) (Ev.neg (by rw [bd5,decide_eq_false hne];decide) (Ev.pos (by omega) (Ev.pos (by omega) (Ev.pos (by omega) (Ev.pos (by omega) (Ev.now _)))))))))))
theorem aX7 {w : Wv} (h : WB w) : H9.f w.s w.r w.d w.L w.N w.E w.a w.A w.net w.now w.res w.file = some true:=by
 have s3:=h.s3;have r3:=h.r3;have d3:=h.d3
 unfold H9.f
 rw [if_pos (by omega),if_pos (by omega),d3];rfl
theorem bD1 (e : Evt) : 0≤e.f1 % 3∧e.f1 % 3 < 3:=by omega
theorem bt3 {w : Wv} (h : WS w) {p : Int} (p0 : 0≤p) (p3 : p < 3) : ae0 (aY9 w p) = true∧aY0 w.A p = (2,p,rd w.A p,0,0,0,0,true):=by
 have a3:=h.A3
 have hm : rd w.A p ∈ w.A:=by unfold rd;exact ad1 p0 (by omega)
 have:=h.aR _ hm
 refine ⟨?_,by unfold aY0;rw [if_pos ⟨p0,by omega⟩]⟩
 unfold ae0 ad7 aY9
 simp only [Bool.and_eq_true,decide_eq_true_eq]
 exact ⟨by omega,by omega,rfl⟩
theorem bp8 {w : Wv} (h : WS w) {e : Evt} (he : V9 e = true) (hl : e.f3.f2.length≤1048576) {r : Int×Wv} (hr : X7 w e r) : Ev (fun k=>F7.f k w.s w.r w.d w.L w.N w.E w.a w.A w.net w.now w.res w.file e.f0 e.f1 e.f2 e.f3.f0 e.f3.f1 e.f3.f2 e.f4) (tw2 r.2 r.1):=by
 obtain ⟨h0,h1,h2,h3,h4⟩:=aL5 he
 obtain ⟨p0,p3⟩:=bD1 e
 have fi:=h.b.fi;have t:=h.b.t;have a3:=h.A3
 have eo:=aB2 e hl
 rw [he] at eo
 have j0 : ∀ v : Wv,Ev (fun k=>F7.j0 k v.s v.r v.d v.L v.N v.E v.a v.A v.net v.now v.res v.file) (tw2 v 0):=fun v=>by
  refine Ev.step (fun _=>rfl) ?_
  simp only [F7.j0];exact Ev.now _
 unfold F7.f
 refine Ev.bind (au3 h.b) (Ev.bind eo (Ev.pos rfl (Ev.neg (by omega) (Ev.bindc (M2 _ _ _) (Ev.pos (decide_eq_true t) (Ev.bindc (aX7 h.b) (Ev.pos rfl ?_)))))))
 dsimp only [tw]
 rw [Int.tmod_eq_emod_of_nonneg h1,Int.tmod_eq_emod_of_nonneg h2,Int.tmod_eq_emod_of_nonneg h2]
 by_cases k : 6≤e.f0∧e.f0≤9
 ·exact Ev.neg (by omega) (Ev.neg (by omega) (Ev.neg (by omega) (Ev.neg (by omega) (Ev.neg (by omega) (Ev.neg (by omega) (Ev.neg (by omega) (Ev.neg (by omega) (Ev.bind (bf4 h he k hr) (Ev.now _)))))))))
 ·cases hr with
  | none k' _=>exact absurd k' k
  | lose i k' | good i f k' | bad i k' | twice i k' | stay i k' | spoil i k'=>omega
  | call k'=>
   exact Ev.pos k' (Ev.bind (bp4 h.b p0 p3 _ _ _ (aD6 (h3 k')).1) (Ev.now _))
  | push k'=>
   exact Ev.neg (by omega) (Ev.pos k' (Ev.bind (bq9 h.b p0 p3 _ (bJ2 _)) (Ev.now _)))
  | tick k'=>
   exact Ev.neg (by omega) (Ev.neg (by omega) (Ev.pos k' (Ev.bind (aI6 h.b (by omega)) (j0 _))))
  | drain k'=>
   exact Ev.neg (by omega) (Ev.neg (by omega) (Ev.neg (by omega) (Ev.pos k' (Ev.bind (ax2 h.b p0 p3) (Ev.bindc (aA0 _) (Ev.now _))))))
  | say k'=>
   have hb : (o9 w (e.f1 % 3)).f1≤1000000:=h.sR _ (ad1 p0 (by have:=h.b.d3;omega))
   exact Ev.neg (by omega) (Ev.neg (by omega) (Ev.neg (by omega) (Ev.neg (by omega) (Ev.pos k' (Ev.bind (bw0 h.b p0 p3 _ hb) (Ev.now _))))))
  | save k'=>
   exact Ev.neg (by omega) (Ev.neg (by omega) (Ev.neg (by omega) (Ev.neg (by omega) (Ev.neg (by omega) (Ev.pos k' (Ev.bindc (aO1 h.b.k w.a) (j0 (ak6 w))))))))
  | fall k'=>
   exact Ev.neg (by omega) (Ev.neg (by omega) (Ev.neg (by omega) (Ev.neg (by omega) (Ev.neg (by omega) (Ev.neg (by omega) (Ev.pos k' (Ev.bind (br1 h.b.k w.a) (j0 (aZ2 w)))))))))
  | ack k'=>
   obtain ⟨f1,f2⟩:=bt3 h p0 p3
   have ea:=aI7 w.L w.N w.E w.a w.A (by omega) (e.f1 % 3)
   rw [f2] at ea
   refine Ev.neg (by omega) (Ev.neg (by omega) (Ev.neg (by omega) (Ev.neg (by omega) (Ev.neg (by omega) (Ev.neg (by omega) (Ev.neg (by omega) (Ev.pos k' (Ev.bindc ea (Ev.bind (aw1 f1) (Ev.bindc (aF4 h.b.n10 ⟨true,frX (aY9 w (e.f1 % 3)),false⟩) (j0 _)))))))))))
end Go.Proofs.YtahmbcgolnplgaaGreat.PFnNoHoles
namespace Go.Proofs.YtahmbcgolnplgaaGreat.PFnNoHoles
open Go Go.RowKit Go.Proofs.YtahmbcgolnplgaaGreatA Go.Proofs.YtahmbcgolnplgaaGreatL
abbrev En:=D1
abbrev Er:=A2
theorem bW1 (c : List Int) (p : Int) (h0 : 0≤p) (h1 : p < (c.length : Int)) : ∃ h : p.toNat < c.length,rd c p = c[p.toNat]:=by
 have h : p.toNat < c.length:=by omega
 exact ⟨h,by unfold rd;exact J8 c 0 (List.getElem?_eq_getElem h)⟩
theorem bW9 (c : List Int) (p : Int) (h0 : 0≤p) (h1 : p < (c.length : Int)) : rd c p ∈ c:=by
 obtain ⟨h,e⟩:=bW1 c p h0 h1
 rw [e];exact List.getElem_mem h
theorem ay6 (N : List Int) (p q v : Int) (h0 : 0≤p) (h1 : 0≤q) (h : p≠q) : rd (N.set p.toNat v) q = rd N q:=by
 unfold rd
 rw [List.getD_eq_getElem?_getD,List.getD_eq_getElem?_getD,List.getElem?_set_ne (by omega)]
def okE (e : En) : Bool:=decide (0≤e.f0∧e.f0≤2) && I3 e.f2
def bump (c : List Int) (p : Int) : List Int:=c.set p.toNat (rd c p + 1)
def good : List En→List Int→Bool
 | [],_=>true
 | e :: L,c=>okE e && (e.f1 == rd c e.f0 + 1) && good L (bump c e.f0)
def P5 : List En→List Int→List Int
 | [],c=>c
 | e :: L,c=>P5 L (bump c e.f0)
def Bd (c : List Int) (i : Nat) : Prop:=c.length = 3∧∀ v ∈ c,0≤v∧v≤(i : Int)
theorem Bd.up {c : List Int} {i j : Nat} (h : Bd c i) (hij : i≤j) : Bd c j:=⟨h.1,fun v hv=>by have:=h.2 v hv;omega⟩
theorem Bd.rd {c : List Int} {i : Nat} (h : Bd c i) {p : Int} (h0 : 0≤p) (h1 : p≤2) : 0≤rd c p∧rd c p≤(i : Int):=h.2 _ (bW9 c p h0 (by have:=h.1;omega))
theorem Bd.bump {c : List Int} {i : Nat} (h : Bd c i) {p : Int} (h0 : 0≤p) (h1 : p≤2) : Bd (bump c p) (i + 1):=by
 refine ⟨by simpa [PFnNoHoles.bump] using h.1,fun v hv=>?_⟩
 rcases List.mem_or_eq_of_mem_set hv with hv | rfl
 ·have:=h.2 v hv;omega
 ·have:=h.rd h0 h1;omega
theorem bd0 : Bd (List.replicate 3 0) 0:=⟨rfl,fun v hv=>by have:=List.eq_of_mem_replicate hv;omega⟩
theorem aK3 {e : En} (h : okE e = true) : 0≤e.f0∧e.f0≤2:=by
 unfold okE at h;rw [Bool.and_eq_true] at h;simpa using h.1
theorem ae9 (e : En) (L : List En) (c : List Int) : good (e :: L) c = true↔okE e = true∧e.f1 = rd c e.f0 + 1∧good L (bump c e.f0) = true:=by
 simp [good,and_assoc]
theorem ap3 (X Y : List En) : ∀ c,good (X ++ Y) c = true↔good X c = true∧good Y (P5 X c) = true:=by
 induction X with
 | nil=>intro c;simp [good,P5]
 | cons e X ih=>intro c;rw [List.cons_append,ae9,ae9,ih];simp [P5,and_assoc]
theorem bc8 (X Y : List En) : ∀ c,P5 (X ++ Y) c = P5 Y (P5 X c):=by
 induction X with
 | nil=>intro c;rfl
 | cons e X ih=>intro c;exact ih _
theorem al2 (L : List En) : ∀ (c : List Int) (i : Nat),good L c = true→Bd c i→Bd (P5 L c) (i + L.length):=by
 induction L with
 | nil=>intro c i _ h;simpa [P5] using h
 | cons e L ih=>
  intro c i hg h
  obtain ⟨h1,_,h3⟩:=(ae9 _ _ _).1 hg
  obtain ⟨p0,p1⟩:=aK3 h1
  have:=ih _ _ h3 (h.bump p0 p1)
  exact this.up (by simp;omega)
theorem bL2 (L : List En) : ∀ (c : List Int) (i : Nat),good L c = true→Bd c i→∀ p,0≤p→p≤2→rd c p≤rd (P5 L c) p:=by
 induction L with
 | nil=>intro c i _ h p _ _;exact Int.le_refl _
 | cons e L ih=>
  intro c i hg h p q0 q1
  obtain ⟨h1,_,h3⟩:=(ae9 _ _ _).1 hg
  obtain ⟨p0,p1⟩:=aK3 h1
  have h4:=ih _ _ h3 (h.bump p0 p1) p q0 q1
  refine Int.le_trans ?_ h4
  unfold bump
  by_cases hp : e.f0 = p
  ·rw [hp,aI5 c p _ q0 (by have:=h.1;omega)];omega
  ·rw [ay6 c _ _ _ p0 q0 hp];exact Int.le_refl _
section
variable (L : List En) (N : List Int) (E : List Er) (s : Int) (A : List Int)
end
structure KOk (Q : Int→Int→u5→Prop) (m : Nat) (L : List En) (N : List Int) (E : List Er) (s : Int) (A : List Int) : Prop where
 hN : N.length = 3
 hA : A.length = 3
 hg : good L (List.replicate 3 0) = true
 hs : 0≤s∧s≤(L.length : Int)
 nx : ∀ p,0≤p→p≤2→rd N p = rd (P5 L (List.replicate 3 0)) p + 1
 ak : ∀ p,0≤p→p≤2→rd A p = rd (P5 (L.take s.toNat) (List.replicate 3 0)) p + 1
 e3 : E.length≤3
 eo : ∀ e ∈ E,(0≤e.f0∧e.f0≤2)∧rd N e.f0 + 1≤e.f1∧e.f1≤1000000000∧I3 e.f2 = true
 ed : E.Pairwise (fun x y=>¬ (x.f0 = y.f0∧x.f1 = y.f1))
 hm : L.length + E.length≤m
 qL : ∀ e ∈ L,Q e.f0 e.f1 e.f2
 qE : ∀ e ∈ E,Q e.f0 e.f1 e.f2
theorem bD6 {N : List Int} (hN : N.length = 3) {v : Int} (hv : v ∈ N) : ∃ p,0≤p∧p≤2∧v = rd N p:=by
 obtain ⟨j,hj,rfl⟩:=List.getElem_of_mem hv
 exact ⟨(j : Int),by omega,by omega,by unfold rd;exact (J8 N 0 (List.getElem?_eq_getElem hj)).symm⟩
theorem al7 (e : En) (L : List En) (c : List Int) : P5 (L ++ [e]) c = bump (P5 L c) e.f0:=by rw [bc8];rfl
theorem am1 (c : List Int) (p q : Int) (p0 : 0≤p) (p1 : p≤2) (q0 : 0≤q) (hc : c.length = 3) : rd (bump c p) q = if q = p then rd c p + 1 else rd c q:=by
 unfold bump
 by_cases h : q = p
 ·subst h;rw [if_pos rfl,aI5 c q _ q0 (by omega)]
 ·rw [if_neg h,ay6 c p q _ p0 q0 (Ne.symm h)]
def KDv (x0 : List En) (x1 : List Int) (x2 : List Er) (a : Int) (x4 : List Int) (kd p s q0 q1 q2 q3 : Int) (r : KR) : Prop:=
 r = (x0,x1,x2,a,x4,false) ∨
 (ad7 kd p s q0 q1 q2 q3 = true∧kd = 1∧p < (x1.length : Int)∧s > rd x1 p∧(∀ y ∈ x2,¬ (y.f0 = p∧y.f1 = s))∧x2.length < 3∧r = (x0,x1,x2 ++ [⟨p,s,⟨q0,q1,q2,q3⟩⟩],a,x4,false)) ∨
 (ad7 kd p s q0 q1 q2 q3 = true∧kd = 1∧p < (x1.length : Int)∧s = rd x1 p∧x0.length < 200 ∧
  ∀ Inv : List En→List Er→Int→Prop,(∀ L E x (j : Nat) y,L.length < 200→E[j]? = some y→y.f0 = p→y.f1 = x→Inv L E x→Inv (L ++ [⟨p,x,⟨y.f2.f0,y.f2.f1,y.f2.f2,y.f2.f3⟩⟩]) (E.eraseIdx j) (wrap64 (x + 1)))→Inv (x0 ++ [⟨p,s,⟨q0,q1,q2,q3⟩⟩]) x2 (wrap64 (s + 1))→KE p x1 a x4 Inv r)
theorem bF0 (p : Int) (Inv : List En→List Er→Int→Prop) (st : ∀ L E x (j : Nat) y,L.length < 200→E[j]? = some y→y.f0 = p→y.f1 = x→Inv L E x→Inv (L ++ [⟨p,x,⟨y.f2.f0,y.f2.f1,y.f2.f2,y.f2.f3⟩⟩]) (E.eraseIdx j) (wrap64 (x + 1))) : ∀ (d : Nat) (L : List En) (E : List Er) (x : Int),L.length + d = 200→0≤x∧x + d≤10000000000→Inv L E x →
 Inv (ab8 p d L E x).1 (ab8 p d L E x).2.1 (ab8 p d L E x).2.2∧(200≤(ab8 p d L E x).1.length∨∀ y ∈ (ab8 p d L E x).2.1,¬ (y.f0 = p∧y.f1 = (ab8 p d L E x).2.2)):=by
 intro d
 induction d with
 | zero=>intro L E x hd hx h;exact ⟨h,.inl (by show 200≤L.length;omega)⟩
 | succ d ih=>
  intro L E x hd hx h
  unfold ab8
  rcases aH8 E p x with ⟨j,y,ej,hy,hp,hs⟩ | ⟨ej,hn⟩
  ·have g : E.getD j aQ2 = y:=J8 E _ hy
   rw [ej,if_neg (by omega),Int.toNat_natCast,g]
   have:=st L E x j y (by omega) hy hp hs h
   rw [m7 (x:=x + 1) (by omega) (by omega)] at this
   exact ih _ _ _ (by rw [List.length_append];simp;omega) (by omega) this
  ·rw [ej,if_pos (by omega)];exact ⟨h,.inr hn⟩
theorem bL1 (L : List En) (N : List Int) (E : List Er) (a : Int) (A : List Int) (kd p s q0 q1 q2 q3 : Int) : KDv L N E a A kd p s q0 q1 q2 q3 (ai7 L N E a A kd p s q0 q1 q2 q3):=by
 unfold ai7
 split
 ·rename_i h
  obtain ⟨h1,h2,h3,h4⟩:=h
  split
  ·rename_i h5
   refine .inr (.inr ⟨h1,h2,h3,h5,h4,fun Inv st h0=>?_⟩)
   have hr:=(ai3 h1).2.1
   rw [m7 (x:=s + 1) (by omega) (by omega)] at h0
   have:=bF0 p Inv st (199 - L.length) (L ++ [⟨p,s,⟨q0,q1,q2,q3⟩⟩]) E (s + 1) (by rw [List.length_append];simp;omega) (by omega) h0
   exact ⟨_,_,_,rfl,this.1,this.2⟩
  ·split
   ·rename_i h5
    refine .inr (.inl ⟨h1,h2,h3,h5.1,?_,h5.2.2.2,rfl⟩)
    rcases aH8 E p s with ⟨j,y,ej,_⟩ | ⟨_,hn⟩
    ·have:=h5.2.2.1;omega
    ·exact hn
   ·exact .inl rfl
 ·exact .inl rfl
theorem KOk.keptv {Q : Int→Int→u5→Prop} {m : Nat} {L : List En} {N : List Int} {E : List Er} {s : Int} {A : List Int} (h : KOk Q m L N E s A) (hm : m≤100) {kd p sq q0 q1 q2 q3 : Int} (hq : kd = 1→Q p sq ⟨q0,q1,q2,q3⟩) {r : KR} (d : KDv L N E s A kd p sq q0 q1 q2 q3 r) (hf : ad7 kd p sq q0 q1 q2 q3 = true→kd = 1→(0≤p∧p≤2)∧(1≤sq∧sq≤1000000000)∧I3 ⟨q0,q1,q2,q3⟩ = true) :
 ∃ L' N' E' o,r = (L',N',E',s,A,o)∧KOk Q (m + 1) L' N' E' s A:=by
 have bm:=(al2 L _ 0 h.hg bd0)
 have hLm:=h.hm
 rcases d with d | ⟨d1,d2,d3,d4,d5,d6,d7⟩ | ⟨d1,d2,d3,d4,d5,d6⟩
 ·exact ⟨_,_,_,_,d,⟨h.hN,h.hA,h.hg,h.hs,h.nx,h.ak,h.e3,h.eo,h.ed,by omega,h.qL,h.qE⟩⟩
 ·obtain ⟨f1,f2,f3⟩:=hf d1 d2
  refine ⟨_,_,_,_,d7,⟨h.hN,h.hA,h.hg,h.hs,h.nx,h.ak,by simp;omega,?_,?_,by simp;omega,h.qL,?_⟩⟩
  ·intro e he
   rcases List.mem_append.1 he with he | he
   ·exact h.eo e he
   ·rw [List.mem_singleton] at he;subst he
    exact ⟨f1,by dsimp only;omega,f2.2,f3⟩
  ·rw [List.pairwise_append]
   exact ⟨h.ed,List.pairwise_singleton _ _,fun x hx y hy=>by rw [List.mem_singleton] at hy;subst hy;exact d5 x hx⟩
  ·intro e he
   rcases List.mem_append.1 he with he | he
   ·exact h.qE e he
   ·rw [List.mem_singleton] at he;subst he;exact hq d2
 ·obtain ⟨f1,f2,f3⟩:=hf d1 d2
  have hnp:=h.nx p f1.1 f1.2
  have key:=d6 (fun L1 E1 x=>good L1 (List.replicate 3 0) = true∧x = rd (P5 L1 (List.replicate 3 0)) p + 1∧(∀ q,0≤q→q≤2→q≠p→rd N q = rd (P5 L1 (List.replicate 3 0)) q + 1)∧L1.take s.toNat = L.take s.toNat∧L.length≤L1.length ∧
   E1.length≤3∧(∀ e ∈ E1,(0≤e.f0∧e.f0≤2)∧(e.f0≠p→rd N e.f0 + 1≤e.f1)∧(e.f0 = p→x≤e.f1)∧e.f1≤1000000000∧I3 e.f2 = true)∧E1.Pairwise (fun x y=>¬ (x.f0 = y.f0∧x.f1 = y.f1))∧L1.length + E1.length≤m + 1∧(∀ e ∈ L1,Q e.f0 e.f1 e.f2)∧(∀ e ∈ E1,Q e.f0 e.f1 e.f2)) ?_ ?_
  ·obtain ⟨L',E',x',rfl,hI,hend⟩:=key
   obtain ⟨g1,g2,g3,g4,g5,g6,g7,g8,g9,g10,g11⟩:=hI
   have hL' : L'.length < 200:=by omega
   have hnone : ∀ y ∈ E',¬ (y.f0 = p∧y.f1 = x'):=by rcases hend with hend | hend;omega;exact hend
   have hrp : rd (N.set p.toNat x') p = x':=aI5 N p x' f1.1 d3
   have hrq : ∀ q,0≤q→q≠p→rd (N.set p.toNat x') q = rd N q:=fun q h0 h1=>ay6 N p q x' f1.1 h0 (Ne.symm h1)
   refine ⟨_,_,_,_,rfl,⟨by rw [List.length_set];exact h.hN,h.hA,g1,by have:=h.hs;omega,?_,by rw [g4];exact h.ak,g6,?_,g8,g9,g10,g11⟩⟩
   ·intro q q0 q1
    by_cases hqp : q = p
    ·rw [hqp,hrp,g2]
    ·rw [hrq q q0 hqp];exact g3 q q0 q1 hqp
   ·intro e he
    obtain ⟨e1,e2,e4,e5,e6⟩:=g7 e he
    refine ⟨e1,?_,e5,e6⟩
    by_cases hep : e.f0 = p
    ·rw [hep,hrp]
     have h1:=e4 hep
     have h2:=hnone e he
     have h3 : e.f1≠x':=fun h3=>h2 ⟨hep,h3⟩
     omega
    ·rw [hrq e.f0 e1.1 hep];exact e2 hep
  ·rintro L1 E1 x j y hl hy hyp hyx ⟨g1,g2,g3,g4,g5,g6,g7,g8,g9,g10,g11⟩
   have bm1:=al2 L1 _ 0 g1 bd0
   have hx:=bm1.rd f1.1 f1.2
   have hmem : y ∈ E1:=List.mem_of_getElem? hy
   obtain ⟨y1,_,_,y4,y5⟩:=g7 y hmem
   have hj:=(List.getElem?_eq_some_iff.1 hy).1
   have hw : wrap64 (x + 1) = x + 1:=m7 (by omega) (by omega)
   have hlen : (E1.eraseIdx j).length = E1.length - 1:=List.length_eraseIdx_of_lt hj
   have hsub : ∀ e ∈ E1.eraseIdx j,e ∈ E1:=fun e he=>List.mem_of_mem_eraseIdx he
   rw [hw]
   refine ⟨?_,?_,?_,?_,by rw [List.length_append];omega,by omega,?_,List.Pairwise.sublist (List.eraseIdx_sublist E1 j) g8,by rw [List.length_append,hlen,List.length_singleton];omega,?_,fun e he=>g11 e (hsub e he)⟩
   ·rw [ap3]
    refine ⟨g1,?_⟩
    rw [ae9]
    exact ⟨by unfold okE;rw [Bool.and_eq_true];exact ⟨decide_eq_true f1,y5⟩,g2,rfl⟩
   ·rw [al7,am1 _ _ _ f1.1 f1.2 f1.1 bm1.1,if_pos rfl,g2]
   ·intro q q0 q1 hqp
    rw [al7,am1 _ _ _ f1.1 f1.2 q0 bm1.1,if_neg hqp]
    exact g3 q q0 q1 hqp
   ·rw [List.take_append_of_le_length (by have:=h.hs;omega)];exact g4
   ·intro e he
    obtain ⟨e1,e2,e4,e5,e6⟩:=g7 e (hsub e he)
    refine ⟨e1,e2,fun hep=>?_,e5,e6⟩
    have h1:=e4 hep
    have hne : e.f1≠x:=by
     intro hex
     obtain ⟨i,hi,rfl⟩:=List.getElem_of_mem he
     rw [List.getElem_eraseIdx] at hep hex
     have hyj : E1[j] = y:=by rw [List.getElem?_eq_getElem hj] at hy;exact Option.some.inj hy
     split at hep
     ·next hij=>rw [dif_pos hij] at hex;exact List.pairwise_iff_getElem.1 g8 i j (by omega) hj hij ⟨by rw [hyj,hep,hyp],by rw [hyj,hex,hyx]⟩
     ·next hij=>rw [dif_neg hij] at hex;exact List.pairwise_iff_getElem.1 g8 j (i + 1) hj (by omega) (by omega) ⟨by rw [hyj,hep,hyp],by rw [hyj,hex,hyx]⟩
    omega
   ·intro e he
    rcases List.mem_append.1 he with he | he
    ·exact g10 e he
    ·rw [List.mem_singleton] at he;subst he
     have:=g11 y hmem
     rw [hyp,hyx] at this
     exact this
  ·have hx:=bm.rd f1.1 f1.2
   have hw : wrap64 (sq + 1) = sq + 1:=m7 (by omega) (by omega)
   rw [hw]
   refine ⟨?_,?_,?_,?_,by rw [List.length_append];omega,h.e3,?_,h.ed,by rw [List.length_append,List.length_singleton];omega,?_,h.qE⟩
   ·rw [ap3]
    refine ⟨h.hg,?_⟩
    rw [ae9]
    exact ⟨by unfold okE;rw [Bool.and_eq_true];exact ⟨decide_eq_true f1,f3⟩,by dsimp only;omega,rfl⟩
   ·rw [al7,am1 _ _ _ f1.1 f1.2 f1.1 bm.1,if_pos rfl];omega
   ·intro q q0 q1 hqp
    rw [al7,am1 _ _ _ f1.1 f1.2 q0 bm.1,if_neg hqp]
    exact h.nx q q0 q1
   ·rw [List.take_append_of_le_length (by have:=h.hs;omega)]
   ·intro e he
    obtain ⟨e1,e2,e5,e6⟩:=h.eo e he
    exact ⟨e1,fun _=>e2,fun hep=>by rw [hep] at e2;omega,e5,e6⟩
   ·intro e he
    rcases List.mem_append.1 he with he | he
    ·exact h.qL e he
    ·rw [List.mem_singleton] at he;subst he;exact hq d2
theorem KOk.mono {Q Q' : Int→Int→u5→Prop} {m m' : Nat} {L : List En} {N : List Int} {E : List Er} {s : Int} {A : List Int} (h : KOk Q m L N E s A) (hm : m≤m') (hq : ∀ a b c,Q a b c→Q' a b c) : KOk Q' m' L N E s A:=
 ⟨h.hN,h.hA,h.hg,h.hs,h.nx,h.ak,h.e3,h.eo,h.ed,by have:=h.hm;omega,fun e he=>hq _ _ _ (h.qL e he),fun e he=>hq _ _ _ (h.qE e he)⟩
theorem KOk.save {Q : Int→Int→u5→Prop} {m : Nat} {L : List En} {N : List Int} {E : List Er} {s : Int} {A : List Int} (h : KOk Q m L N E s A) : KOk Q m L N E (L.length : Int) N:=
 ⟨h.hN,h.hN,h.hg,by omega,h.nx,by rw [Int.toNat_natCast,List.take_length];exact h.nx,h.e3,h.eo,h.ed,h.hm,h.qL,h.qE⟩
theorem KOk.fall {Q : Int→Int→u5→Prop} {m : Nat} {L : List En} {N : List Int} {E : List Er} {s : Int} {A : List Int} (h : KOk Q m L N E s A) : aK2 L s A = (L.take s.toNat,A,[],s,A)∧KOk Q m (L.take s.toNat) A [] s A:=by
 have hs:=h.hs
 have hm:=h.hm
 refine ⟨by unfold aK2;rw [if_pos hs],⟨h.hA,h.hA,((ap3 (L.take s.toNat) (L.drop s.toNat) _).1 (by rw [List.take_append_drop];exact h.hg)).1,by rw [List.length_take];omega,h.ak,?_,by simp,fun e he=>by simp at he,List.Pairwise.nil,by rw [List.length_take];simp;omega,fun e he=>h.qL e (List.mem_of_mem_take he),fun e he=>by simp at he⟩⟩
 rw [List.take_take,Nat.min_self];exact h.ak
theorem bP8 (Q : Int→Int→u5→Prop) : KOk Q 0 [] [1,1,1] [] 0 [1,1,1]:=by
 have key : ∀ p : Int,0≤p→p≤2→rd [1,1,1] p = rd (P5 [] (List.replicate 3 0)) p + 1:=by
  intro p h0 h1
  obtain rfl | rfl | rfl : p = 0∨p = 1∨p = 2:=by omega
  all_goals rfl
 exact ⟨rfl,rfl,rfl,by simp,key,key,by simp,fun e he=>by simp at he,List.Pairwise.nil,by simp,fun e he=>by simp at he,fun e he=>by simp at he⟩
def Z9 (l : List It) : Int:=(l.map aa3).sum
def Z2 (l : List It) : Int:=(l.map (fun x=>x.f3)).sum
def nF (p : Int) (l : List Sn) : Int:=(l.map (fun x=>if x.f0 = p then (1 : Int) else 0)).sum
def nU (p : Int) (l : List Sn) : Int:=(l.map (fun x=>if x.f0 = p∧x.f3 = false then (1 : Int) else 0)).sum
def TQ (T : Int→List It) (q s : Int) (x : It) : Prop:=1≤s∧(T q)[(s - 1).toNat]? = some x
structure PI (T : List It) (s : Sd) (r : Rg) (ap : Int) (file : List Sn) (p : Int) : Prop where
 id : s.f0 = p
 tk : T.drop (s.f1 - 1).toNat = s.f2
 ln : s.f1 - 1 + s.f2.length = T.length
 ak : s.f1≤ap
 ti : T.all I3 = true
 c : Z9 T + Z9 r.f0 + r.f2 = nF p file
 h : Z2 T + Z2 r.f0 + r.f2 = nU p file
def LtI (T : Int→List It) (A : List Int) (l : Lt) : Prop:=(l.f2 = false∧∃ f : P9,ae0 f = true∧l.f1 = frX f∧(l.f0 = false→f.f0 = 1∧TQ T f.f1 f.f2 f.f3)∧(l.f0 = true→f.f0 = 2∧f.f2≤rd A f.f1))∨(l.f2 = true∧l.f1.size≤30∧(as3 l.f1).2 = false)
structure WI (T : Int→List It) (n : Nat) (w : Wv) : Prop where
 s3 : w.s.length = 3
 sS : ∀ x ∈ w.s,ag6 x = true
 r3 : w.r.length = 3
 rR : ∀ y ∈ w.r,Q8 y.f0 y.f1 y.f2 y.f3 = true
 d3 : w.d.length = 3
 dD : ∀ y ∈ w.d,E3 y.f0 y.f1 y.f2 y.f3 y.f4 = true
 rC : ∀ y ∈ w.r,y.f3≤n
 n10 : w.net.length≤10
 nL : ∀ l ∈ w.net,LtI T w.A l
 t0 : 0≤w.now
 t : w.now≤5 * n
 re : w.res.length≤n
 fi : w.file.length≤n
 P : ∀ p,0≤p→p≤2→PI (T p) (o9 w p) (y3 w p) (rd w.A p) w.file p
 K : KOk (TQ T) 93 w.L w.N w.E w.a w.A
theorem af5 (a b : List It) : Z9 (a ++ b) = Z9 a + Z9 b:=by unfold Z9;rw [List.map_append,List.sum_append]
theorem au6 (a b : List It) : Z2 (a ++ b) = Z2 a + Z2 b:=by unfold Z2;rw [List.map_append,List.sum_append]
theorem bG3 (p : Int) (a b : List Sn) : nF p (a ++ b) = nF p a + nF p b:=by unfold nF;rw [List.map_append,List.sum_append]
theorem bF3 (p : Int) (a b : List Sn) : nU p (a ++ b) = nU p a + nU p b:=by unfold nU;rw [List.map_append,List.sum_append]
theorem aQ9 {l : List It} (h : l.all I3 = true) : (l.length : Int)≤Z9 l:=by
 induction l with
 | nil=>exact Int.le_refl _
 | cons x r ih=>
  rw [List.all_cons,Bool.and_eq_true] at h
  have h1:=ih h.2
  have h2:=aq9 (a:=x.f0) (b:=x.f1) (c:=x.f2) (d:=x.f3) h.1
  have h3 : 1≤aa3 x:=by unfold aa3;split <;> omega
  have h4 : Z9 (x :: r) = aa3 x + Z9 r:=rfl
  rw [List.length_cons]
  omega
theorem bF4 (l : List Sn) : 0≤nF 0 l∧0≤nF 1 l∧0≤nF 2 l∧nF 0 l + nF 1 l + nF 2 l≤l.length:=by
 induction l with
 | nil=>exact ⟨Int.le_refl _,Int.le_refl _,Int.le_refl _,Int.le_refl _⟩
 | cons x r ih=>
  have e : ∀ p,nF p (x :: r) = (if x.f0 = p then 1 else 0) + nF p r:=fun p=>rfl
  rw [e 0,e 1,e 2,List.length_cons]
  by_cases h0 : x.f0 = 0
  ·rw [if_pos h0,if_neg (by omega),if_neg (by omega)];omega
  ·by_cases h1 : x.f0 = 1
   ·rw [if_neg h0,if_pos h1,if_neg (by omega)];omega
   ·rw [if_neg h0,if_neg h1];split <;> omega
theorem bD5 {α : Type} {P : List α→Prop} (h0 : P []) (h1 : ∀ l a,P l→P (l ++ [a])) (l : List α) : P l:=by
 rw [← List.reverse_reverse l]
 induction l.reverse with
 | nil=>exact h0
 | cons x r ih=>rw [List.reverse_cons];exact h1 _ _ ih
def ofP (p : Int) (L : List En) : List It:=(L.filter (fun e=>e.f0 == p)).map (fun e=>e.f2)
theorem bS9 (T : Int→List It) (p : Int) (p0 : 0≤p) (p2 : p≤2) : ∀ L : List En,good L (List.replicate 3 0) = true→(∀ e ∈ L,TQ T e.f0 e.f1 e.f2)→ofP p L = (T p).take (rd (P5 L (List.replicate 3 0)) p).toNat∧rd (P5 L (List.replicate 3 0)) p≤((T p).length : Int):=by
 refine bD5 ?_ ?_
 ·intro _ _
  have : rd (P5 [] (List.replicate 3 0)) p = 0:=by
   obtain rfl | rfl | rfl : p = 0∨p = 1∨p = 2:=by omega
   all_goals rfl
  rw [this];exact ⟨rfl,by omega⟩
 ·intro L e ih hg hq
  obtain ⟨g1,g2⟩:=(ap3 L [e] _).1 hg
  obtain ⟨g3,g4,_⟩:=(ae9 e [] _).1 g2
  have hb:=al2 L _ 0 g1 bd0
  obtain ⟨i1,i2⟩:=ih g1 (fun x hx=>hq x (List.mem_append_left _ hx))
  have he:=aK3 g3
  have hr:=hb.rd p0 p2
  rw [al7,am1 _ _ _ he.1 he.2 p0 hb.1]
  have hf : ofP p (L ++ [e]) = ofP p L ++ (if e.f0 = p then [e.f2] else []):=by
   unfold ofP
   rw [List.filter_append,List.map_append]
   congr 1
   by_cases h : e.f0 = p
   ·simp [h]
   ·simp [h]
  rw [hf]
  by_cases h : e.f0 = p
  ·obtain ⟨q1,q2⟩:=hq e (List.mem_append_right _ (List.mem_singleton.2 rfl))
   rw [h] at q2 g4
   rw [if_pos h,if_pos h.symm,h]
   rw [g4,show rd (P5 L (List.replicate 3 0)) p + 1 - 1 = rd (P5 L (List.replicate 3 0)) p by omega] at q2
   have hlt:=(List.getElem?_eq_some_iff.1 q2).1
   refine ⟨?_,by omega⟩
   rw [i1,show (rd (P5 L (List.replicate 3 0)) p + 1).toNat = (rd (P5 L (List.replicate 3 0)) p).toNat + 1 by omega,List.take_add_one,q2];rfl
  ·rw [if_neg h,if_neg (fun h2=>h h2.symm),List.append_nil]
   exact ⟨i1,i2⟩
theorem bF5 : ∀ L : List En,good L (List.replicate 3 0) = true→(L.length : Int) = rd (P5 L (List.replicate 3 0)) 0 + rd (P5 L (List.replicate 3 0)) 1 + rd (P5 L (List.replicate 3 0)) 2:=by
 refine bD5 ?_ ?_
 ·intro _;rfl
 ·intro L e ih hg
  obtain ⟨g1,g2⟩:=(ap3 L [e] _).1 hg
  obtain ⟨g3,_,_⟩:=(ae9 e [] _).1 g2
  have hb:=al2 L _ 0 g1 bd0
  have he:=aK3 g3
  have:=ih g1
  rw [al7,am1 _ _ _ he.1 he.2 (by decide) hb.1,am1 _ _ _ he.1 he.2 (by decide) hb.1,am1 _ _ _ he.1 he.2 (by decide) hb.1,List.length_append,List.length_singleton]
  generalize P5 L (List.replicate 3 0) = c at *
  obtain h | h | h : e.f0 = 0∨e.f0 = 1∨e.f0 = 2:=by omega
  all_goals
   rw [h]
   simp
   omega
theorem ao5 {T : Int→List It} {m : Nat} {L : List En} {N : List Int} {E : List Er} {s : Int} {A : List Int} (K : KOk (TQ T) m L N E s A) {file : List Sn} (hT : ∀ p,0≤p→p≤2→((T p).length : Int)≤nF p file) : L.length≤file.length∧∀ p,0≤p→p≤2→1≤rd N p∧rd N p - 1≤(T p).length∧ofP p L = (T p).take (rd N p - 1).toNat:=by
 have hb:=al2 L _ 0 K.hg bd0
 have hl:=bF5 L K.hg
 have h:=fun p p0 p2=>bS9 T p p0 p2 L K.hg K.qL
 have a0:=(h 0 (by omega) (by omega)).2;have a1:=(h 1 (by omega) (by omega)).2;have a2:=(h 2 (by omega) (by omega)).2
 have b0:=hT 0 (by omega) (by omega);have b1:=hT 1 (by omega) (by omega);have b2:=hT 2 (by omega) (by omega)
 have hs:=bF4 file
 refine ⟨by omega,fun p p0 p2=>?_⟩
 obtain ⟨c1,c2⟩:=h p p0 p2
 have hr:=hb.rd p0 p2
 have hn:=K.nx p p0 p2
 rw [show rd (P5 L (List.replicate 3 0)) p = rd N p - 1 by omega] at c1 c2
 exact ⟨by omega,c2,c1⟩
theorem KOk.ack_le {Q : Int→Int→It→Prop} {m : Nat} {L : List En} {N : List Int} {E : List Er} {s : Int} {A : List Int} (h : KOk Q m L N E s A) {p : Int} (p0 : 0≤p) (p2 : p≤2) : 1≤rd A p∧rd A p≤rd N p∧rd N p≤L.length + 1:=by
 have hsplit:=(ap3 (L.take s.toNat) (L.drop s.toNat) (List.replicate 3 0)).1 (by rw [List.take_append_drop];exact h.hg)
 have bs0:=al2 _ _ 0 hsplit.1 bd0
 have h1:=bL2 (L.drop s.toNat) _ _ hsplit.2 bs0 p p0 p2
 rw [← bc8,List.take_append_drop] at h1
 have h2:=h.nx p p0 p2
 have h3:=h.ak p p0 p2
 have h4:=bs0.rd p0 p2
 have h5:=(al2 L _ 0 h.hg bd0).rd p0 p2
 omega
theorem PI.len {T : List It} {s : Sd} {r : Rg} {ap : Int} {file : List Sn} {p : Int} (h : PI T s r ap file p) (hr : Q8 r.f0 r.f1 r.f2 r.f3 = true) : (T.length : Int)≤nF p file:=by
 have h1:=aQ9 h.ti
 obtain ⟨_,_,hb,_,hi,_⟩:=R2 hr
 have h2:=aQ9 hi
 have h3:=h.c
 omega
theorem WI.rg {T : Int→List It} {n : Nat} {w : Wv} (h : WI T n w) {p : Int} (p0 : 0≤p) (p2 : p≤2) : Q8 (y3 w p).f0 (y3 w p).f1 (y3 w p).f2 (y3 w p).f3 = true∧E3 (o9 w p).f0 (o9 w p).f1 (o9 w p).f2 (o9 w p).f3 (o9 w p).f4 = true:=
 ⟨h.rR _ (ad1 p0 (by have:=h.r3;omega)),h.dD _ (ad1 p0 (by have:=h.d3;omega))⟩
theorem WI.Tn {T : Int→List It} {n : Nat} {w : Wv} (h : WI T n w) {p : Int} (p0 : 0≤p) (p2 : p≤2) : ((T p).length : Int)≤nF p w.file:=(h.P p p0 p2).len (h.rg p0 p2).1
theorem LtI.ok {T : Int→List It} {A : List Int} {l : Lt} (h : LtI T A l) : bw8 l:=by
 rcases h with ⟨h1,f,h2,h3,_⟩ | h
 ·exact .inl ⟨h1,f,h2,h3⟩
 ·exact .inr h
theorem WI.ws {T : Int→List It} {n : Nat} {w : Wv} (h : WI T n w) (hn : n≤150) : WS w:=by
 obtain ⟨l1,l2⟩:=ao5 h.K (fun p p0 p2=>h.Tn p0 p2)
 have fi:=h.fi;have e3:=h.K.e3
 have aN : ∀ v ∈ w.N,0≤v∧v≤1000000:=fun v hv=>by
  obtain ⟨p,p0,p1,rfl⟩:=bD6 h.K.hN hv
  have:=h.K.ack_le p0 p1;omega
 refine ⟨⟨h.s3,h.sS,h.r3,h.rR,h.d3,h.dD,⟨by omega,by have:=h.K.hN;omega,by omega,by have:=h.K.hA;omega,fun v hv=>by have:=aN v hv;omega⟩,h.n10,fun y hy=>by have:=(h.nL y hy).ok.size;omega,⟨h.t0,by have:=h.t;omega⟩,by have:=h.re;omega,by omega⟩,h.K.hN,h.K.hA,?_,?_,fun l hl=>(h.nL l hl).ok⟩
 ·intro v hv
  obtain ⟨p,p0,p1,rfl⟩:=bD6 h.K.hA hv
  have:=h.K.ack_le p0 p1;omega
 ·intro y hy
  obtain ⟨j,hj,rfl⟩:=List.getElem_of_mem hy
  have d3:=h.d3
  have hp:=(h.P (j : Int) (by omega) (by omega)).ak
  have:=h.K.ack_le (p:=(j : Int)) (by omega) (by omega)
  have e : o9 w (j : Int) = w.d[j]:=by unfold o9;rw [Int.toNat_natCast];exact J8 _ _ (List.getElem?_eq_getElem hj)
  rw [e] at hp
  omega
theorem ar4 {α : Type} {l : List α} {z x : α} {p q : Int} (p0 : 0≤p) (hp : p < (l.length : Int)) (q0 : 0≤q) : (l.set p.toNat x).getD q.toNat z = if q = p then x else l.getD q.toNat z:=by
 by_cases h : q = p
 ·rw [if_pos h,h,List.getD_eq_getElem?_getD,List.getElem?_set_self (by omega)];rfl
 ·rw [if_neg h,List.getD_eq_getElem?_getD,List.getElem?_set_ne (by omega),← List.getD_eq_getElem?_getD]
theorem ar1 {α : Type} {P : α→Prop} {l : List α} {x : α} {i : Nat} (a : ∀ y ∈ l,P y) (hx : P x) : ∀ y ∈ l.set i x,P y:=fun y hy=>by
 rcases List.mem_or_eq_of_mem_set hy with hy | rfl
 ·exact a y hy
 ·exact hx
theorem WI.up {T : Int→List It} {n : Nat} {w : Wv} (h : WI T n w) : WI T (n + 1) w:=
 { h with t:=by have:=h.t;omega,re:=by have:=h.re;omega,fi:=by have:=h.fi;omega,rC:=fun y hy=>by have:=h.rC y hy;omega }
theorem bH3 {T : Int→List It} {n : Nat} {w : Wv} (h : WI T n w) {p : Int} (p0 : 0≤p) (p3 : p < 3) (t : ByteArray) : WI T (n + 1) (aM9 w p t).2:=by
 unfold aM9
 split
 ·exact { h.up with s3:=by show (w.s.set _ _).length = 3;rw [List.length_set];exact h.s3,sS:=ar1 h.sS (bH1 (h.sS _ (ad1 p0 (by have:=h.s3;omega))) _) }
 ·exact h.up
theorem bb8 {T : Int→List It} {n : Nat} {w : Wv} (h : WI T n w) {m : Int} (hm : 0≤m∧m≤5) : WI T (n + 1) (aj8 w m):=by
 have r3:=h.r3
 refine { h.up with r3:=by show (w.r.map _).length = 3;rw [List.length_map];exact h.r3,rR:=?_,rC:=?_,t0:=by have:=h.t0;show 0≤w.now + m;omega,t:=by have:=h.t;show w.now + m≤_;omega,P:=?_ }
 ·intro y hy
  obtain ⟨x,hx,rfl⟩:=List.mem_map.1 hy
  have h1:=h.rR x hx
  obtain ⟨g1,g2,g3,g4,g5,g6⟩:=R2 h1
  unfold Q8 am5 bb0
  simp only [Bool.and_eq_true,decide_eq_true_eq]
  exact ⟨by omega,g5,g6⟩
 ·intro y hy
  obtain ⟨x,hx,rfl⟩:=List.mem_map.1 hy
  have:=h.rC x hx
  show x.f3≤_;omega
 ·intro p p0 p2
  have e : y3 (aj8 w m) p = bb0 m (y3 w p):=by
   unfold y3 aj8
   dsimp only
   rw [List.getD_eq_getElem?_getD,List.getD_eq_getElem?_getD,List.getElem?_map,List.getElem?_eq_getElem (by omega)];rfl
  have hp:=h.P p p0 p2
  rw [e]
  exact ⟨hp.id,hp.tk,hp.ln,hp.ak,hp.ti,hp.c,hp.h⟩
theorem bn2 {T : Int→List It} {n : Nat} {w : Wv} (h : WI T n w) : WI T (n + 1) (ak6 w):=by
 refine { h.up with nL:=?_,P:=?_,K:=h.K.save }
 ·intro l hl
  rcases h.nL l hl with ⟨h1,f,h2,h3,h4,h5⟩ | h1
  ·refine .inl ⟨h1,f,h2,h3,h4,fun hb=>⟨(h5 hb).1,?_⟩⟩
   obtain ⟨r1,_⟩:=ai3 h2
   have:=h.K.ack_le r1.1 r1.2
   have:=(h5 hb).2
   show f.f2≤rd w.N f.f1;omega
  ·exact .inr h1
 ·intro p p0 p2
  have hp:=h.P p p0 p2
  have:=h.K.ack_le p0 p2
  exact ⟨hp.id,hp.tk,hp.ln,by have:=hp.ak;show (o9 w p).f1≤rd w.N p;omega,hp.ti,hp.c,hp.h⟩
theorem bJ8 {T : Int→List It} {n : Nat} {w : Wv} (h : WI T n w) : WI T (n + 1) (aZ2 w):=by
 obtain ⟨k1,k2⟩:=h.K.fall
 refine { h.up with K:=?_ }
 show KOk (TQ T) 93 (aK2 w.L w.a w.A).1 w.A [] w.a w.A
 rw [k1];exact k2
theorem aX9 {T : Int→List It} {n : Nat} {w : Wv} (h : WI T n w) {l : Lt} (hl : LtI T w.A l) : WI T n (as2 w l):=by
 unfold as2
 split
 ·rename_i hlt
  refine { h with n10:=by show (w.net ++ [l]).length≤10;rw [List.length_append,List.length_singleton];omega,nL:=fun y hy=>?_ }
  rcases List.mem_append.1 hy with hy | hy
  ·exact h.nL y hy
  ·rw [List.mem_singleton.1 hy];exact hl
 ·exact h
theorem ba3 {T : Int→List It} {n : Nat} {w : Wv} (h : WI T n w) (i : Nat) : WI T n (ax0 w i):=by
 have hl:=h.n10
 refine { h with n10:=by unfold ax0;simp only [List.length_append,List.length_take,List.length_drop];omega,nL:=fun y hy=>?_ }
 unfold ax0 at hy
 rcases List.mem_append.1 hy with hy | hy
 ·exact h.nL y (List.mem_of_mem_take hy)
 ·exact h.nL y (List.mem_of_mem_drop hy)
theorem bS0 {T : Int→List It} {n : Nat} {w : Wv} (h : WI T n w) (hn : n≤90) {p : Int} (p0 : 0≤p) (p3 : p < 3) : WI T (n + 1) (as2 w ⟨true,frX (aY9 w p),false⟩):=by
 refine aX9 h.up (.inl ⟨rfl,aY9 w p,(bt3 (h.ws (by omega)) p0 p3).1,rfl,fun hb=>(by cases hb),fun _=>⟨rfl,Int.le_refl _⟩⟩)
theorem bi3 {T : Int→List It} {n : Nat} : ∀ (fs : List P9) (w : Wv),WI T n w→(∀ f ∈ fs,ae0 f = true∧f.f0 = 1∧TQ T f.f1 f.f2 f.f3)→WI T n (bA2 w fs)
 | [],w,h,_=>h
 | f :: fs,w,h,hf=>by
  have h1:=hf f (List.mem_cons_self ..)
  exact bi3 fs (as2 w ⟨false,frX f,false⟩) (aX9 h (.inl ⟨rfl,f,h1.1,rfl,fun _=>h1.2,fun hb=>(by cases hb)⟩)) (fun g hg=>hf g (List.mem_cons_of_mem _ hg))
theorem aT1 {T : Int→List It} {n : Nat} {w : Wv} (h : WI T n w) {p : Int} (p0 : 0≤p) (p3 : p < 3) {s : Sd} (hs : E3 s.f0 s.f1 s.f2 s.f3 s.f4 = true) (hp : PI (T p) s (y3 w p) (rd w.A p) w.file p) : WI T n { w with d:=w.d.set p.toNat s }:=by
 have d3:=h.d3
 refine { h with d3:=by show (w.d.set _ _).length = 3;rw [List.length_set];exact h.d3,dD:=ar1 h.dD hs,P:=fun q q0 q2=>?_ }
 have e : o9 { w with d:=w.d.set p.toNat s } q = if q = p then s else o9 w q:=ar4 p0 (by omega) q0
 rw [e]
 by_cases hq : q = p
 ·rw [if_pos hq,hq];exact hp
 ·rw [if_neg hq];exact h.P q q0 q2
theorem bP7 {T : Int→List It} {n : Nat} {w : Wv} (h : WI T n w) (hn : n≤90) {p : Int} (p0 : 0≤p) (p3 : p < 3) (odd : Bool) : WI T (n + 1) (aY2 w p odd).2:=by
 obtain ⟨g1,g2⟩:=h.rg p0 (by omega)
 have hp:=h.P p p0 (by omega)
 have hw:=h.ws (by omega)
 have t:=hw.b.t
 obtain ⟨s1,s2,s3,s4⟩:=bg6 (s:=o9 w p) (now:=w.now) g2 (by omega)
 have hs:=aT1 h p0 p3 s1 ⟨by rw [s2];exact hp.id,by rw [s3,s4];exact hp.tk,by rw [s3,s4];exact hp.ln,by rw [s3];exact hp.ak,hp.ti,hp.c,hp.h⟩
 have hb : (o9 w p).f1≤1000000:=hw.sR _ (ad1 p0 (by have:=h.d3;omega))
 unfold aY2
 split
 ·refine bi3 _ _ hs.up (fun f hf=>⟨aP0 s1 (by rw [s3];exact hb) f hf,?_⟩)
  rw [aQ8 s1,s2,s3,s4] at hf
  obtain ⟨y,hy,rfl⟩:=List.mem_map.1 hf
  have hj:=List.mem_zipIdx hy
  have hd:=Q3 g2
  refine ⟨rfl,by dsimp only;omega,?_⟩
  dsimp only
  rw [hp.id]
  have hlt : y.2 < (o9 w p).f2.length:=by omega
  have e2 : (o9 w p).f2[y.2]? = some y.1:=by
   rw [List.getElem?_eq_getElem hlt,hj.2.2]
   rfl
  have e:=hp.tk
  rw [← e,List.getElem?_drop] at e2
  rw [show ((o9 w p).f1 + (y.2 : Int) - 1).toNat = ((o9 w p).f1 - 1).toNat + y.2 by omega]
  exact e2
 ·exact hs.up
theorem bD9 {T : Int→List It} {n : Nat} {w : Wv} (h : WI T n w) {i : Nat} (hi : i < w.net.length) (hg : (Y5 w i).f2 = false) (a : Int) : WI T (n + 1) { w with net:=w.net.set i ⟨(Y5 w i).f0,bx3 (Y5 w i).f1 a,true⟩ }:=by
 refine { h.up with n10:=by show (w.net.set _ _).length≤10;rw [List.length_set];exact h.n10,nL:=ar1 h.nL (.inr ⟨rfl,?_,?_⟩) }
 all_goals
  rcases h.nL _ (ao4 hi) with ⟨h1,f,h2,h3,_⟩ | ⟨h1,_⟩
  case inr=>rw [hg] at h1;cases h1
  dsimp only
  obtain ⟨z1,z2⟩:=bk2 f.f0 f.f1 f.f2 f.f3.f0 f.f3.f1 f.f3.f2 f.f3.f3
  have hne : (frX f).size≠0:=bB2
  rw [h3]
  unfold bx3
  generalize hs : frX f = s at *
  have hm:=Int.emod_nonneg a (show (s.size : Int)≠0 by omega)
  have hm2:=Int.emod_lt_of_pos a (show (0 : Int) < (s.size : Int) by omega)
  generalize a % (s.size : Int) = m at *
  unfold frX at hs
  rw [hs] at z1 z2
 ·rw [strOfNums_size,List.length_set,x7];exact z1
 ·have hbt:=O3 s m
  have e : rd (s9 s) m = (s9 s).getD m.toNat 0:=rfl
  have hb : 0≤(s9 s).getD m.toNat 0∧(s9 s).getD m.toNat 0 < 256:=by
   rw [← an7 (s:=s) (i:=m.toNat) (by omega)];exact O3 s _
  refine bz9 (s:=s) (i:=m.toNat) (v:=(rd (s9 s) m + 1) % 256) (by omega) (by omega) (by rw [e];omega) ?_ z2
  refine aA2 _ (fun x hx=>?_)
  rcases List.mem_or_eq_of_mem_set hx with hx | rfl
  ·obtain ⟨j,hj,rfl⟩:=List.getElem_of_mem hx
   rw [x7] at hj
   have:=(aR9 hj).1
   rw [List.getElem?_eq_getElem (by rw [x7];exact hj)] at this
   rw [Option.some.inj this];exact O3 s _
  ·omega
theorem bd7 {T : List It} {s : Sd} {r : Rg} {ap : Int} {file : List Sn} {p : Int} (h : PI T s r ap file p) {q : Int} (hq : q≤ap) (hs : E3 s.f0 s.f1 s.f2 s.f3 s.f4 = true) (ha : ap≤1000000000) :
 PI T (tkA s q) r ap file p∧E3 (tkA s q).f0 (tkA s q).f1 (tkA s q).f2 (tkA s q).f3 (tkA s q).f4 = true∧(tkA s q).f2.length≤s.f2.length:=by
 unfold tkA ak2
 by_cases hc : E3 s.f0 s.f1 s.f2 s.f3 s.f4 = true∧s.f1 + 1≤q∧q≤s.f1 + s.f2.length
 ·rw [if_pos hc]
  obtain ⟨d1,d2,d3,d4,d5,d6⟩:=Q3 hs
  have hl:=h.ln
  refine ⟨⟨h.id,?_,?_,hq,h.ti,h.c,h.h⟩,?_,?_⟩
  ·show T.drop (q - 1).toNat = s.f2.drop (q - s.f1).toNat
   rw [← h.tk,List.drop_drop];congr 1;omega
  ·show q - 1 + ((s.f2.drop (q - s.f1).toNat).length : Int) = T.length
   rw [List.length_drop];omega
  ·unfold E3
   rw [Bool.and_eq_true]
   refine ⟨?_,decide_eq_true ?_⟩
   ·rw [List.all_eq_true] at d1 ⊢
    exact fun x hx=>d1 x (List.mem_of_mem_drop hx)
   ·dsimp only
    rw [List.length_drop];omega
  ·show (s.f2.drop _).length≤_;rw [List.length_drop];omega
 ·rw [if_neg hc];exact ⟨h,hs,Nat.le_refl _⟩
theorem bP9 {f g : P9} (hf : ae0 f = true) (hg : ae0 g = true) (h : frX f = frX g) : f = g:=by
 have a:=al1 hf
 have b:=al1 hg
 unfold frX at h
 rw [h] at a
 obtain ⟨k,hk⟩:=a
 obtain ⟨m,hm⟩:=b
 have e:=(hk (k + m) (by omega)).symm.trans (hm (k + m) (by omega))
 obtain ⟨a0,a1,a2,⟨a3,a4,a5,a6⟩⟩:=f
 obtain ⟨b0,b1,b2,⟨b3,b4,b5,b6⟩⟩:=g
 simp only [Option.some.injEq,Prod.mk.injEq] at e
 obtain ⟨rfl,rfl,rfl,rfl,rfl,rfl,rfl,_⟩:=e
 rfl
theorem bm9 {T : Int→List It} {n : Nat} {w : Wv} (h : WI T n w) (fi : w.file.length≤90) (f : P9) (hq : f.f0 = 1→TQ T f.f1 f.f2 f.f3) : WI T n (I4 w false f)∧(I4 w false f).A = w.A∧(I4 w false f).a = w.a:=by
 have key : KOk (TQ T) 93 (I4 w false f).L (I4 w false f).N (I4 w false f).E (I4 w false f).a (I4 w false f).A∧(I4 w false f).a = w.a∧(I4 w false f).A = w.A:=by
  obtain ⟨L',N',E',o,e,k⟩:=h.K.keptv (by omega) hq (bL1 w.L w.N w.E w.a w.A f.f0 f.f1 f.f2 f.f3.f0 f.f3.f1 f.f3.f2 f.f3.f3) (fun g _=>by
   obtain ⟨r1,r2,r3⟩:=ai3 g
   refine ⟨r1,r2,?_⟩
   rcases r3 with r3 | r3
   ·exact r3.2
   ·omega)
  have hl:=(ao5 k (fun p p0 p2=>h.Tn p0 p2)).1
  unfold I4
  rw [if_neg (by decide)]
  dsimp only
  rw [e]
  exact ⟨{ k with hm:=by have:=k.e3;show L'.length + E'.length≤93;omega },rfl,rfl⟩
 have e : I4 w false f = { w with L:=(I4 w false f).L,N:=(I4 w false f).N,E:=(I4 w false f).E,a:=(I4 w false f).a,A:=(I4 w false f).A }:=by unfold I4;rw [if_neg (by decide)]
 obtain ⟨k1,k2,k3⟩:=key
 refine ⟨?_,k3,k2⟩
 rw [e]
 generalize (I4 w false f).L = L' at *
 generalize (I4 w false f).N = N' at *
 generalize (I4 w false f).E = E' at *
 rw [k2,k3] at k1 ⊢
 exact { h with K:=k1 }
theorem bM6 {T : Int→List It} {n : Nat} {w : Wv} (h : WI T n w) (hn : n≤90) {l : Lt} (hl : LtI T w.A l) {f : P9} (hg : l.f2 = false) (hf : ae0 f = true) (he : l.f1 = frX f) : WI T n (I4 w l.f0 f):=by
 rcases hl with ⟨_,g,g1,g2,g3,g4⟩ | ⟨h1,_⟩
 case inr=>rw [hg] at h1;cases h1
 obtain rfl : f = g:=bP9 hf g1 (he.symm.trans g2)
 cases hb : l.f0 with
 | false=>exact (bm9 h (by have:=h.fi;omega) f (fun _=>(g3 hb).2)).1
 | true=>
  obtain ⟨b1,b2⟩:=g4 hb
  obtain ⟨r1,_⟩:=ai3 hf
  unfold I4
  rw [if_pos rfl,if_pos b1]
  have hak:=h.K.ack_le r1.1 r1.2
  have hll:=(ao5 h.K (fun p p0 p2=>h.Tn p0 p2)).1
  have fi:=h.fi
  obtain ⟨a1,a2,_⟩:=bd7 (h.P f.f1 r1.1 r1.2) b2 (h.rg r1.1 r1.2).2 (by omega)
  exact aT1 h r1.1 (by omega) a2 a1
theorem aF0 : ∀ (l : List It) (s : Int),l.all I3 = true→l.length≤10→0≤s→s + 1000000000 * l.length≤100000000000→ao8 l s = s + Z9 l
 | [],s,_,_,_,_=>by show s = s + 0;omega
 | x :: r,s,h,hl,h0,hs=>by
  rw [List.all_cons,Bool.and_eq_true] at h
  have h2:=aq9 (a:=x.f0) (b:=x.f1) (c:=x.f2) (d:=x.f3) h.1
  have h3 : 0≤aa3 x∧aa3 x≤1000000000:=by unfold aa3;split <;> omega
  rw [List.length_cons] at hl hs
  have e : ao8 (x :: r) s = ao8 r (wrap64 (s + aa3 x)):=rfl
  have e2 : Z9 (x :: r) = aa3 x + Z9 r:=rfl
  rw [e,m7 (x:=s + aa3 x) (by omega) (by omega),aF0 r (s + aa3 x) h.2 (by omega) (by omega) (by omega),e2]
  omega
theorem aT2 {l : List It} {a b c : Int} (h : Q8 l a b c = true) : b + Z9 l≤c:=by
 obtain ⟨g1,g2,g3,g4,g5,g6⟩:=R2 h
 rw [aF0 l b g5 (by omega) (by omega) (by omega)] at g6
 exact g6
theorem aq8 {l : List It} {a b c : Int} (h1 : l.length≤4) (h2 : 0≤a∧a≤5) (h3 : 0≤b∧b≤1000000000) (h4 : 0≤c∧c≤1000000000) (h5 : l.all I3 = true) (h6 : b + Z9 l≤c) : Q8 l a b c = true:=by
 unfold Q8 am5
 rw [Bool.and_eq_true,Bool.and_eq_true]
 refine ⟨decide_eq_true ⟨h1,h2,h3,h4⟩,h5,decide_eq_true ?_⟩
 rw [aF0 l b h5 (by omega) (by omega) (by omega)]
 exact h6
theorem bh5 {b : Int} (h : 1≤b∧b≤1000000000) : I3 (⟨2,0,0,b⟩ : It) = true:=by unfold I3;exact decide_eq_true (.inr ⟨rfl,by dsimp only;omega⟩)
theorem bP3 {l : List It} {a b c u v : Int} (h : Q8 l a b c = true) (hu : as9 u = true) (hv : as9 v = true) (hc : c < 1000000000) :
 Q8 (af6 l a b c u v).1 (af6 l a b c u v).2.1 (af6 l a b c u v).2.2.1 (af6 l a b c u v).2.2.2.1 = true∧(af6 l a b c u v).2.2.2.1 = c + 1 ∧
 Z9 (af6 l a b c u v).1 + (af6 l a b c u v).2.2.1 = Z9 l + b + 1∧Z2 (af6 l a b c u v).1 + (af6 l a b c u v).2.2.1 = Z2 l + b + (if (af6 l a b c u v).2.2.2.2 = false then 1 else 0):=by
 obtain ⟨g1,g2,g3,g4,g5,_⟩:=R2 h
 have hs:=aT2 h
 have hl:=aQ9 g5
 unfold af6
 rw [if_pos ⟨h,hu,hv,hc⟩]
 by_cases hx : a = 0∨(l.length : Int) + (if b > 0 then 2 else 1) > 4
 ·rw [if_pos hx]
  exact ⟨aq8 g1 g2 (by dsimp only;omega) (by dsimp only;omega) g5 (by dsimp only;omega),rfl,by dsimp only;omega,by dsimp only;rw [if_pos rfl];omega⟩
 ·rw [if_neg hx]
  have hi : I3 (⟨1,u,v,0⟩ : It) = true:=by
   unfold as9 at hu hv
   have hu:=of_decide_eq_true hu
   have hv:=of_decide_eq_true hv
   unfold I3
   exact decide_eq_true (.inl ⟨rfl,by dsimp only;omega⟩)
  have c1 : Z9 [(⟨1,u,v,0⟩ : It)] = 1:=rfl
  have c2 : Z2 [(⟨1,u,v,0⟩ : It)] = 0:=rfl
  have c3 : Z9 [(⟨2,0,0,b⟩ : It)] = b:=by show b + 0 = b;omega
  have c4 : Z2 [(⟨2,0,0,b⟩ : It)] = b:=by show b + 0 = b;omega
  have c5 : Z9 ([] : List It) = 0:=rfl
  have c6 : Z2 ([] : List It) = 0:=rfl
  by_cases hb : b > 0
  ·rw [if_pos hb] at hx ⊢
   refine ⟨aq8 (by simp;omega) (by dsimp only;omega) (by dsimp only;omega) (by dsimp only;omega) ?_ ?_,rfl,?_,?_⟩
   ·rw [List.all_append,List.all_append,g5];simp [bh5 (show 1≤b∧b≤1000000000 by omega),hi]
   ·dsimp only;rw [af5,af5,c1,c3];omega
   ·dsimp only;rw [af5,af5,c1,c3];omega
   ·dsimp only;rw [au6,au6,c2,c4];simp
  ·rw [if_neg hb] at hx ⊢
   refine ⟨aq8 (by simp;omega) (by dsimp only;omega) (by dsimp only;omega) (by dsimp only;omega) ?_ ?_,rfl,?_,?_⟩
   ·rw [List.all_append,List.all_append,g5];simp [hi]
   ·dsimp only;rw [af5,af5,c1,c5];omega
   ·dsimp only;rw [af5,af5,c1,c5];omega
   ·dsimp only;rw [au6,au6,c2,c6];simp;omega
theorem bU0 {T : Int→List It} {n : Nat} {w : Wv} (h : WI T n w) {p : Int} (p0 : 0≤p) (p3 : p < 3) {r : Rg} (hr : Q8 r.f0 r.f1 r.f2 r.f3 = true) (hc : r.f3≤n + 1) {file : List Sn} (hf : file.length≤n + 1) {res : List Int} (he : res.length≤n + 1)
 (hP : PI (T p) (o9 w p) r (rd w.A p) file p) (hO : ∀ q,0≤q→q≤2→q≠p→nF q file = nF q w.file∧nU q file = nU q w.file) : WI T (n + 1) { w with r:=w.r.set p.toNat r,file:=file,res:=res }:=by
 have r3:=h.r3
 refine { h.up with r3:=by show (w.r.set _ _).length = 3;rw [List.length_set];exact h.r3,rR:=ar1 h.rR hr,rC:=ar1 h.up.rC (by omega),re:=he,fi:=hf,P:=fun q q0 q2=>?_ }
 have e : y3 { w with r:=w.r.set p.toNat r,file:=file,res:=res } q = if q = p then r else y3 w q:=ar4 p0 (by omega) q0
 rw [e]
 by_cases hq : q = p
 ·rw [if_pos hq,hq];exact hP
 ·rw [if_neg hq]
  have g:=h.P q q0 q2
  obtain ⟨o1,o2⟩:=hO q q0 q2 hq
  exact ⟨g.id,g.tk,g.ln,g.ak,g.ti,by rw [o1];exact g.c,by rw [o2];exact g.h⟩
theorem bL7 {T : Int→List It} {n : Nat} {w : Wv} (h : WI T n w) (hn : n≤90) {p : Int} (p0 : 0≤p) (p3 : p < 3) {a m : Int} {l : List Wd} (hc : X6 a m l = true) : WI T (n + 1) (aL8 w p a m l).2:=by
 have fi:=h.fi;have re:=h.re
 have hres : (w.res ++ [al0 (w.s.getD p.toNat []) a m l]).length≤n + 1:=by rw [List.length_append,List.length_singleton];omega
 unfold aL8
 split
 ·obtain ⟨c1,c2,c3⟩:=aD6 hc
  have hlo:=(c3 _ (ad1 (z:=ah4) (p:=0) (Int.le_refl 0) (by omega : (0 : Int) < (l.length : Int)))).2
  have hrg:=h.rg p0 (by omega)
  have hcc : (y3 w p).f3≤n:=h.rC _ (ad1 p0 (by have:=h.r3;omega))
  obtain ⟨o1,o2,o3,o4⟩:=bP3 (u:=m) (v:=(l.getD 0 ah4).f1) hrg.1 (decide_eq_true c2) (decide_eq_true hlo) (by omega)
  have hp:=h.P p p0 (by omega)
  unfold bT3
  generalize af6 (y3 w p).f0 (y3 w p).f1 (y3 w p).f2 (y3 w p).f3 m (l.getD 0 ah4).f1 = o at *
  have f1 : nF p [(⟨p,m,(l.getD 0 ah4).f1,o.2.2.2.2⟩ : Sn)] = 1:=by show (if p = p then (1 : Int) else 0) + 0 = 1;rw [if_pos rfl];rfl
  have f2 : nU p [(⟨p,m,(l.getD 0 ah4).f1,o.2.2.2.2⟩ : Sn)] = (if o.2.2.2.2 = false then 1 else 0):=by
   show (if p = p∧o.2.2.2.2 = false then (1 : Int) else 0) + 0 = _
   by_cases hb : o.2.2.2.2 = false
   ·rw [if_pos ⟨rfl,hb⟩,if_pos hb];rfl
   ·rw [if_neg (fun h=>hb h.2),if_neg hb];rfl
  refine bU0 h p0 p3 o1 (by dsimp only;omega) (by rw [List.length_append,List.length_singleton];dsimp only;omega) hres ⟨hp.id,hp.tk,hp.ln,hp.ak,hp.ti,?_,?_⟩ ?_
  ·rw [bG3,f1];have:=hp.c;dsimp only;omega
  ·rw [bF3,f2];have:=hp.h;dsimp only;omega
  ·intro q q0 q2 hq
   rw [bG3,bF3]
   have g1 : nF q [(⟨p,m,(l.getD 0 ah4).f1,o.2.2.2.2⟩ : Sn)] = 0:=by show (if p = q then (1 : Int) else 0) + 0 = 0;rw [if_neg (fun h=>hq h.symm)];rfl
   have g2 : nU q [(⟨p,m,(l.getD 0 ah4).f1,o.2.2.2.2⟩ : Sn)] = 0:=by show (if p = q∧o.2.2.2.2 = false then (1 : Int) else 0) + 0 = 0;rw [if_neg (fun h=>hq h.1.symm)];rfl
   rw [g1,g2];dsimp only;omega
 ·exact { h.up with re:=hres }
theorem bB6 {R : List It} {a b c : Int} (h : Q8 R a b c = true) (hd : (O1 R a b c).2.2.2.2.2.2.2.2 = true) : ∃ (x : It) (R' : List It) (b' : Int),O1 R a b c = (R',a,b',c,x.f0,x.f1,x.f2,x.f3,true)∧I3 x = true∧Q8 R' a b' c = true∧aa3 x + Z9 R' + b' = Z9 R + b∧x.f3 + Z2 R' + b' = Z2 R + b:=by
 obtain ⟨g1,g2,g3,g4,g5,_⟩:=R2 h
 have hs:=aT2 h
 cases R with
 | cons x r=>
  have e : H2 (x :: r) 0 = x:=rfl
  rw [List.all_cons,Bool.and_eq_true] at g5
  have e1 : Z9 (x :: r) = aa3 x + Z9 r:=rfl
  have e2 : Z2 (x :: r) = x.f3 + Z2 r:=rfl
  have hi:=aq9 (a:=x.f0) (b:=x.f1) (c:=x.f2) (d:=x.f3) g5.1
  have hln : 0≤aa3 x:=by unfold aa3;split <;> omega
  refine ⟨x,r,b,?_,g5.1,aq8 (by rw [List.length_cons] at g1;omega) g2 g3 g4 g5.2 (by omega),by omega,by omega⟩
  unfold O1
  rw [if_pos (by rw [List.length_cons];omega),e];rfl
 | nil=>
  have hb : b≠0:=by
   intro hb
   unfold O1 at hd
   rw [if_neg (by decide),if_pos hb] at hd;cases hd
  refine ⟨⟨2,0,0,b⟩,[],0,?_,bh5 (by omega),aq8 (by decide) g2 (by omega) g4 rfl (by show 0 + 0≤c;omega),?_,?_⟩
  ·unfold O1;rw [if_neg (by decide),if_neg hb]
  ·show b + 0 + 0 = 0 + b;omega
  ·show b + 0 + 0 = 0 + b;omega
theorem br7 {T : Int→List It} {p : Int} {x : It} : ∀ q s y,TQ T q s y→TQ (fun q=>if q = p then T p ++ [x] else T q) q s y:=by
 intro q s y h
 refine ⟨h.1,?_⟩
 dsimp only
 by_cases hq : q = p
 ·rw [if_pos hq]
  have h2:=h.2
  rw [hq] at h2
  rw [List.getElem?_append_left (List.getElem?_eq_some_iff.1 h2).1];exact h2
 ·rw [if_neg hq];exact h.2
def rgC (r : Rg) : Nat:=r.f0.length + (if r.f2 > 0 then 1 else 0)
theorem aW1 {R : List It} {a b c : Int} (hb : 0≤b) : ((O1 R a b c).2.2.2.2.2.2.2.2 = true∧(O1 R a b c).1.length + (if (O1 R a b c).2.2.1 > 0 then 1 else 0) + 1 = R.length + (if b > 0 then 1 else 0))∨((O1 R a b c).2.2.2.2.2.2.2.2 = false∧R.length + (if b > 0 then 1 else 0) = 0):=by
 cases R with
 | cons x r=>
  refine .inl ?_
  unfold O1
  rw [if_pos (by rw [List.length_cons];omega)]
  refine ⟨rfl,?_⟩
  show r.length + (if b > 0 then 1 else 0) + 1 = r.length + 1 + (if b > 0 then 1 else 0)
  omega
 | nil=>
  by_cases h : b = 0
  ·refine .inr ?_
   unfold O1
   rw [if_neg (by decide),if_pos h,h];exact ⟨rfl,rfl⟩
  ·refine .inl ?_
   unfold O1
   rw [if_neg (by decide),if_neg h,if_pos (show b > 0 by omega)];exact ⟨rfl,rfl⟩
theorem aG7 {T : Int→List It} {n : Nat} {w : Wv} (h : WI T n w) (hn : n≤150) {p : Int} (p0 : 0≤p) (p3 : p < 3) : ∃ T',WI T' n (Q1 w p).2 ∧
 (((Q1 w p).1 = false∧T' = T∧(Q1 w p).2 = w∧((o9 w p).f2.length = 3∨rgC (y3 w p) = 0))∨((Q1 w p).1 = true∧(o9 w p).f2.length < 3∧(o9 (Q1 w p).2 p).f2.length = (o9 w p).f2.length + 1∧rgC (y3 (Q1 w p).2 p) + 1 = rgC (y3 w p)∧∀ q,0≤q→q≠p→T' q = T q∧o9 (Q1 w p).2 q = o9 w q∧y3 (Q1 w p).2 q = y3 w q)):=by
 obtain ⟨hr,hs⟩:=h.rg p0 (by omega)
 have hp:=h.P p p0 (by omega)
 have r3:=h.r3;have d3:=h.d3
 by_cases ht : ac2 (o9 w p).f0 (o9 w p).f1 (o9 w p).f2 (o9 w p).f3 (o9 w p).f4 (y3 w p).f0 (y3 w p).f1 (y3 w p).f2 (y3 w p).f3 w.now = true
 ·have ht2:=ht
  unfold ac2 at ht2
  simp only [Bool.and_eq_true,decide_eq_true_eq] at ht2
  obtain ⟨_,_,t3,t4⟩:=ht2
  obtain ⟨x,R',b',e,hx,hR,c1,c2⟩:=bB6 hr t3
  have ev : tkV (o9 w p) (y3 w p) w.now = ((o9 w p).f0,(o9 w p).f1,(o9 w p).f2 ++ [x],w.now,1,R',(y3 w p).f1,b',(y3 w p).f3,true):=by
   unfold tkV ar0;rw [if_pos ht,e]
  have ew : (Q1 w p).2 = { w with d:=w.d.set p.toNat ⟨(o9 w p).f0,(o9 w p).f1,(o9 w p).f2 ++ [x],w.now,1⟩,r:=w.r.set p.toNat ⟨R',(y3 w p).f1,b',(y3 w p).f3⟩ }:=by unfold Q1;rw [ev];rfl
  have e1 : (Q1 w p).1 = true:=by unfold Q1;rw [ev]
  obtain ⟨s1,s2,s3,s4,s5,s6⟩:=Q3 hs
  have hcc : (y3 w p).f3≤n:=h.rC _ (ad1 p0 (by omega))
  have hTn : (o9 w p).f1 - 1≤((T p).length : Int):=by have:=hp.ln;omega
  have eR : ∀ q,0≤q→y3 { w with d:=w.d.set p.toNat ⟨(o9 w p).f0,(o9 w p).f1,(o9 w p).f2 ++ [x],w.now,1⟩,r:=w.r.set p.toNat ⟨R',(y3 w p).f1,b',(y3 w p).f3⟩ } q = if q = p then ⟨R',(y3 w p).f1,b',(y3 w p).f3⟩ else y3 w q:=fun q q0=>ar4 p0 (by omega) q0
  have eS : ∀ q,0≤q→o9 { w with d:=w.d.set p.toNat ⟨(o9 w p).f0,(o9 w p).f1,(o9 w p).f2 ++ [x],w.now,1⟩,r:=w.r.set p.toNat ⟨R',(y3 w p).f1,b',(y3 w p).f3⟩ } q = if q = p then ⟨(o9 w p).f0,(o9 w p).f1,(o9 w p).f2 ++ [x],w.now,1⟩ else o9 w q:=fun q q0=>ar4 p0 (by omega) q0
  refine ⟨fun q=>if q = p then T p ++ [x] else T q,?_,.inr ⟨e1,by omega,?_,?_,?_⟩⟩
  ·rw [ew]
   refine { h with r3:=by show (w.r.set _ _).length = 3;rw [List.length_set];exact h.r3,rR:=ar1 h.rR hR,rC:=ar1 h.rC (by show (y3 w p).f3≤n;exact hcc),d3:=by show (w.d.set _ _).length = 3;rw [List.length_set];exact h.d3,dD:=ar1 h.dD ?_,nL:=fun l hl=>?_,K:=h.K.mono (Nat.le_refl _) br7,P:=fun q q0 q2=>?_ }
   ·unfold E3
    rw [Bool.and_eq_true]
    refine ⟨by rw [List.all_append,s1];simp [hx],decide_eq_true ?_⟩
    dsimp only
    rw [List.length_append,List.length_singleton]
    omega
   ·rcases h.nL l hl with ⟨h1,f,h2,h3,h4,h5⟩ | h1
    ·exact .inl ⟨h1,f,h2,h3,fun hb=>⟨(h4 hb).1,br7 _ _ _ (h4 hb).2⟩,h5⟩
    ·exact .inr h1
   ·rw [eR q q0,eS q q0]
    by_cases hq : q = p
    ·rw [if_pos hq,if_pos hq,if_pos hq,hq]
     refine ⟨hp.id,?_,?_,hp.ak,?_,?_,?_⟩
     ·dsimp only;rw [List.drop_append_of_le_length (by omega),hp.tk]
     ·have:=hp.ln;dsimp only;rw [List.length_append,List.length_append,List.length_singleton];omega
     ·rw [List.all_append,hp.ti];simp [hx]
     ·have:=hp.c;have z : Z9 [x] = aa3 x + 0:=rfl;dsimp only;rw [af5,z];omega
     ·have:=hp.h;have z : Z2 [x] = x.f3 + 0:=rfl;dsimp only;rw [au6,z];omega
    ·rw [if_neg hq,if_neg hq,if_neg hq];exact h.P q q0 q2
  ·rw [ew,eS p p0,if_pos rfl];dsimp only;rw [List.length_append,List.length_singleton]
  ·rw [ew,eR p p0,if_pos rfl]
   rcases aW1 (R:=(y3 w p).f0) (a:=(y3 w p).f1) (c:=(y3 w p).f3) (R2 hr).2.2.1.1 with ⟨_,hcnt⟩ | ⟨hf,_⟩
   ·rw [e] at hcnt;exact hcnt
   ·rw [e] at hf;cases hf
  ·intro q q0 hq
   rw [ew,eR q q0,eS q q0,if_neg hq,if_neg hq]
   exact ⟨if_neg hq,rfl,rfl⟩
 ·have ev : tkV (o9 w p) (y3 w p) w.now = ((o9 w p).f0,(o9 w p).f1,(o9 w p).f2,(o9 w p).f3,(o9 w p).f4,(y3 w p).f0,(y3 w p).f1,(y3 w p).f2,(y3 w p).f3,false):=by
   unfold tkV ar0;rw [if_neg ht]
  have ew : (Q1 w p).2 = w:=by
   unfold Q1;rw [ev]
   show { w with d:=w.d.set p.toNat (o9 w p),r:=w.r.set p.toNat (y3 w p) } = w
   unfold o9 y3
   rw [bw3 p0 (by omega),bw3 p0 (by omega)]
  have e1 : (Q1 w p).1 = false:=by unfold Q1;rw [ev]
  refine ⟨T,by rw [ew];exact h,.inl ⟨e1,rfl,ew,?_⟩⟩
  rcases aW1 (R:=(y3 w p).f0) (a:=(y3 w p).f1) (c:=(y3 w p).f3) (R2 hr).2.2.1.1 with ⟨hd,_⟩ | ⟨_,hcnt⟩
  ·refine .inl ?_
   have hs2:=Q3 hs
   apply Classical.byContradiction
   intro hne
   apply ht
   unfold ac2
   simp only [Bool.and_eq_true,decide_eq_true_eq]
   have t0:=h.t0;have t1:=h.t
   exact ⟨hs,hr,hd,by omega⟩
  ·exact .inr hcnt
theorem bm6 {T : Int→List It} {n : Nat} {w : Wv} (h : WI T n w) (hn : n≤90) {e : Evt} (he : V9 e = true) {r : Int×Wv} (hr : X7 w e r) : ∃ T',WI T' (n + 1) r.2:=by
 obtain ⟨h0,h1,h2,h3,h4⟩:=aL5 he
 obtain ⟨p0,p3⟩:=bD1 e
 cases hr with
 | call k=>exact ⟨T,bL7 h hn p0 p3 (h3 k)⟩
 | push k=>exact ⟨T,bH3 h p0 p3 _⟩
 | tick k=>exact ⟨T,bb8 h (by omega)⟩
 | drain k=>obtain ⟨T',h',_⟩:=aG7 h (by omega) p0 p3;exact ⟨T',h'.up⟩
 | say k=>exact ⟨T,bP7 h hn p0 p3 _⟩
 | save k=>exact ⟨T,bn2 h⟩
 | fall k=>exact ⟨T,bJ8 h⟩
 | ack k=>exact ⟨T,bS0 h hn p0 p3⟩
 | none _ _=>exact ⟨T,h.up⟩
 | lose i _ _ _=>exact ⟨T,(ba3 h i).up⟩
 | good i f _ _ hi g1 g2 g3=>exact ⟨T,(bM6 (ba3 h i) hn (h.nL _ (ao4 hi)) g1 g2 g3).up⟩
 | bad i _ _ _ _=>exact ⟨T,(ba3 h i).up⟩
 | twice i _ _ hi=>exact ⟨T,(aX9 h (h.nL _ (ao4 hi))).up⟩
 | stay i _ _ _ _=>exact ⟨T,h.up⟩
 | spoil i _ _ hi g1=>exact ⟨T,bD9 h hi g1 _⟩
end Go.Proofs.YtahmbcgolnplgaaGreat.PFnNoHoles
