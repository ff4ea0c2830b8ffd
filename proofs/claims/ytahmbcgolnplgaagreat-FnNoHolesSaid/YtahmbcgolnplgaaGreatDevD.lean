import Derived.Test.YtahmbcgolnplgaaGreatDevA
set_option linter.unusedVariables false
set_option linter.unusedSimpArgs false
namespace Go.Proofs.YtahmbcgolnplgaaGreat.PFnNoHoles
open Go Go.RowKit Go.Proofs.YtahmbcgolnplgaaGreatA Go.Proofs.YtahmbcgolnplgaaGreatL
def bw7 (q : List Bool) (ks : List Int) : List Bool:=ks.foldl (fun q k=>q.set k.toNat true) q
theorem aA5 : ∀ (ks : List Int) (q : List Bool),(bw7 q ks).length = q.length
 | [],q=>rfl
 | k :: ks,q=>by show (bw7 (q.set k.toNat true) ks).length = _;rw [aA5 ks];simp
def ap0 (x : f9) (i : Nat) (q : List Bool) : List Bool:=if q.getD i false = true then bw7 q (ay7 x (i : Int)) else q
theorem aV1 (x : f9) (i : Nat) (q : List Bool) : (ap0 x i q).length = q.length:=by unfold ap0;split;exact aA5 _ _;rfl
def au7 : List f9→Nat→List Bool→List Bool
 | [],_,q=>q
 | x :: r,i,q=>au7 r (i + 1) (ap0 x i q)
theorem aF7 : ∀ (l : List f9) (i : Nat) (q : List Bool),(au7 l i q).length = q.length
 | [],_,_=>rfl
 | x :: r,i,q=>by show (au7 r (i + 1) (ap0 x i q)).length = _;rw [aF7 r,aV1]
def aw2 (l : List f9) : List Bool:=if chk l = true then au7 l 0 ((List.replicate l.length false).set 0 true) else []
theorem rdB {q : List Bool} {i : Nat} : M0 false q (i : Int) = q.getD i false:=by unfold M0;rw [Int.toNat_natCast]
theorem by5 {x : f9} {i n : Nat} (hio : ak3 x = true) (hf : (i : Int) + aG9 x < n) : ∀ k ∈ ay7 x (i : Int),(i : Int) < k∧k < (n : Int):=by
 obtain ⟨hx0,hx1,hx2,hx3,-⟩:=ai1 hio
 intro k hk
 unfold ay7 at hk
 unfold aG9 at hf
 by_cases h8 : x.f0 = 8
 ·rw [if_pos h8] at hk;simp at hk
 ·rw [if_neg h8] at hk
  by_cases h7 : x.f0 = 7
  ·rw [if_pos h7] at hk
   rw [if_neg (by omega),if_pos h7] at hf
   simp at hk;omega
  ·rw [if_neg h7] at hk
   by_cases ha : 3≤x.f0∧x.f0≤6
   ·rw [if_pos ha] at hk hf
    by_cases he : x.f2 = x.f3
    ·rw [if_pos he] at hk;simp at hk;omega
    ·rw [if_neg he] at hk
     simp only [List.mem_cons,List.not_mem_nil,or_false] at hk
     omega
   ·rw [if_neg ha] at hk hf
    rw [if_neg h7,if_neg h8] at hf
    simp at hk;omega
theorem aW7 (l : List f9) (i : Nat) (ks : List Int) (hk : ∀ k ∈ ks,0≤k∧k < (l.length : Int)) (hl : l.length≤400) (hi : i < l.length) (hks : ks.length≤2) (r : List Bool) : ∀ (d j : Nat) (q : List Bool),ks.length - j = d→j≤ks.length→q.length = l.length →
 Ev (fun k=>B0.l1 k l (bw7 q (ks.drop j)) ((i : Int) + 1)) r→Ev (fun k=>B0.l0 k l (i : Int) ks q (j : Int)) r:=by
 intro d
 induction d with
 | zero=>
  intro j q hd hj hq h
  rw [List.drop_eq_nil_of_le (by omega)] at h
  refine Ev.step (fun _=>rfl) ?_
  simp only [B0.l0]
  rw [m7 (x:=(i : Int) + 1) (by omega) (by omega)]
  exact Ev.neg (by omega) h
 | succ d ih=>
  intro j q hd hj hq h
  have hx : ks[j]? = some ks[j]:=List.getElem?_eq_getElem (by omega)
  rw [List.drop_eq_getElem_cons (by omega)] at h
  have hb:=hk ks[j] (List.getElem_mem _)
  generalize ks[j] = y at hx h hb
  have e : rd ks (j : Int) = y:=by unfold rd;exact J8 ks 0 hx
  refine Ev.step (fun _=>rfl) ?_
  simp only [B0.l0]
  rw [e,m7 (x:=(j : Int) + 1) (by omega) (by omega)]
  have:=ih (j + 1) (q.set y.toNat true) (by omega) (by omega) (by simp [hq]) h
  exact Ev.pos (by omega) (Ev.pos (by omega) (Ev.pos hb.1 (Ev.pos (by omega) (by simpa using this))))
theorem bC2 (x : f9) (i : Int) : (ay7 x i).length≤2:=by
 unfold ay7
 repeat' split
 all_goals simp
theorem aV3 (l : List f9) (hl : chk l = true) : ∀ (d i : Nat) (q : List Bool),l.length - i = d→i≤l.length→q.length = l.length→Ev (fun k=>B0.l1 k l q (i : Int)) (au7 (l.drop i) i q):=by
 obtain ⟨c1,_,c3⟩:=ag0 hl
 intro d
 induction d with
 | zero=>
  intro i q hd hi hq
  rw [List.drop_eq_nil_of_le (by omega)]
  refine Ev.step (fun _=>rfl) ?_
  simp only [B0.l1];exact Ev.neg (by omega) (Ev.now _)
 | succ d ih=>
  intro i q hd hi hq
  have hx : l[i]? = some l[i]:=List.getElem?_eq_getElem (by omega)
  rw [List.drop_eq_getElem_cons (by omega)]
  generalize l[i] = x at hx
  obtain ⟨hio,hf⟩:=c3 i x hx
  have hb:=by5 (n:=l.length) hio hf
  have nx : ∀ q' : List Bool,q'.length = l.length→Ev (fun k=>B0.l1 k l q' ((i : Int) + 1)) (au7 (l.drop (i + 1)) (i + 1) q'):=fun q' h=>by
   have:=ih (i + 1) q' (by omega) (by omega) h
   simpa using this
  show Ev _ (au7 (l.drop (i + 1)) (i + 1) (ap0 x i q))
  refine Ev.step (fun _=>rfl) ?_
  simp only [B0.l1]
  rw [by2 hx,m7 (x:=(i : Int) + 1) (by omega) (by omega),rdB]
  refine Ev.pos (by omega) (Ev.pos (by omega) (Ev.pos (by omega) ?_))
  unfold ap0
  by_cases hq1 : q.getD i false = true
  ·rw [if_pos hq1]
   refine Ev.pos hq1 (Ev.bind (bo2 i x (by omega) hio) ?_)
   refine aW7 l i (ay7 x i) (fun k hk=>by have:=hb k hk;omega) c1.2 (by omega) (bC2 _ _) _ _ 0 q rfl (Nat.zero_le _) hq ?_
   rw [List.drop_zero]
   exact nx _ (by rw [aA5];exact hq)
  ·rw [if_neg hq1]
   exact Ev.neg hq1 (nx q hq)
theorem aU3 (l : List f9) (hn : l.length≤1048576) : Ev (fun k=>B0.f k l) (aw2 l):=by
 unfold B0.f aw2
 refine Ev.bind (Q6 l hn) ?_
 cases h : chk l with
 | false=>rw [if_neg (by simp)];exact Ev.neg (by simp) (Ev.now _)
 | true=>
  obtain ⟨c1,_,_⟩:=ag0 h
  rw [if_pos rfl,Int.toNat_natCast]
  have:=aV3 l h _ 0 ((List.replicate l.length false).set 0 true) rfl (Nat.zero_le _) (by simp)
  exact Ev.pos rfl (Ev.pos (by omega) (Ev.pos (by omega) (Ev.pos (by simp;omega) (by simpa using this))))
def cnt (R : List Bool) (i : Nat) : Nat:=((R.take i).filter id).length
theorem bm8 {R : List Bool} {i : Nat} (h : i < R.length) : cnt R (i + 1) = cnt R i + if R.getD i false = true then 1 else 0:=by
 have hx : R[i]? = some R[i]:=List.getElem?_eq_getElem h
 unfold cnt
 rw [List.take_add_one,List.filter_append,List.length_append,List.getD_eq_getElem?_getD,hx]
 cases R[i] <;> rfl
theorem bS4 {R : List Bool} {i : Nat} (h : R.getD i false = true) : i < R.length:=by
 refine Classical.byContradiction fun hn=>?_
 rw [List.getD_eq_getElem?_getD,List.getElem?_eq_none (by omega)] at h
 simp at h
theorem bV1 {R : List Bool} {i : Nat} (h : R.getD i false = true) : cnt R (i + 1) = cnt R i + 1:=by rw [bm8 (bS4 h),if_pos h]
theorem bR9 {R : List Bool} (i d : Nat) : cnt R (i + d)≤cnt R i + d:=by
 induction d with
 | zero=>exact Nat.le_refl _
 | succ d ih=>
  have : cnt R (i + d + 1)≤cnt R (i + d) + 1:=by
   unfold cnt
   rw [List.take_add_one,List.filter_append,List.length_append]
   have : (List.filter id R[i + d]?.toList).length≤1:=Nat.le_trans (List.length_filter_le _ _) (by cases R[i + d]? <;> simp)
   omega
  rw [show i + (d + 1) = i + d + 1 by omega];omega
theorem bi4 (R : List Bool) : cnt R 0 = 0:=rfl
def tr (R : List Bool) (x : Iw) (i : Nat) : Iw:=if x.f0 = 7 then ⟨x.f0,(cnt R (i + 1 + x.f1.toNat) : Int) - cnt R i - 1,x.f2,x.f3⟩ else if 3≤x.f0∧x.f0≤6 then ⟨x.f0,x.f1,(cnt R (i + 1 + x.f2.toNat) : Int) - cnt R i - 1,(cnt R (i + 1 + x.f3.toNat) : Int) - cnt R i - 1⟩ else x
theorem rdI (l : List Iw) (i : Nat) : m8 l (i : Int) = l.getD i R6:=by unfold m8;rw [Int.toNat_natCast]
theorem by0 {l : List Iw} {i : Nat} {x : Iw} (h : l[i]? = some x) : l.getD i R6 = x:=J8 l R6 h
theorem ba1 {l : List Iw} (hl : chk l = true) {i : Nat} {x : Iw} (hx : l[i]? = some x) (h7 : x.f0 = 7) : 0≤x.f1∧i + 1 + x.f1.toNat < l.length:=by
 obtain ⟨_,_,c3⟩:=ag0 hl
 obtain ⟨h1,h2⟩:=c3 i x hx
 have h3:=(ai1 h1).2.1
 unfold aG9 at h2
 rw [if_neg (by omega),if_pos h7] at h2
 omega
theorem bD7 {l : List Iw} (hl : chk l = true) {i : Nat} {x : Iw} (hx : l[i]? = some x) (ha : 3≤x.f0∧x.f0≤6) : (0≤x.f2∧i + 1 + x.f2.toNat < l.length)∧0≤x.f3∧i + 1 + x.f3.toNat < l.length:=by
 obtain ⟨_,_,c3⟩:=ag0 hl
 obtain ⟨h1,h2⟩:=c3 i x hx
 have h3:=ai1 h1
 unfold aG9 at h2
 rw [if_pos ha] at h2
 omega
def aR5 (q : List Iw) (i : Nat) : List Iw:=if (q.getD i R6).f0 = 7∧(q.getD (i + 1 + (q.getD i R6).f1.toNat) R6).f0 = 8 then q.set i (q.getD (i + 1 + (q.getD i R6).f1.toNat) R6) else q
def aZ1 : Nat→List Iw→List Iw
 | 0,q=>q
 | i + 1,q=>aZ1 i (aR5 q i)
def ba9 (l : List Iw) : List Iw:=if chk l = true then aZ1 l.length l else l
theorem bj7 (q : List Iw) (i : Nat) : (aR5 q i).length = q.length:=by
 unfold aR5;split
 ·rw [List.length_set]
 ·rfl
theorem bn3 : ∀ (i : Nat) (q : List Iw),(aZ1 i q).length = q.length
 | 0,_=>rfl
 | i + 1,q=>by rw [aZ1,bn3 i,bj7]
theorem bm0 (l : List Iw) : (ba9 l).length = l.length:=by
 unfold ba9;split
 ·exact bn3 _ _
 ·rfl
theorem bx7 (q : List Iw) (i j : Nat) (h : j < i) : (aR5 q i).getD j R6 = q.getD j R6:=by
 unfold aR5;split
 ·rw [List.getD_eq_getElem?_getD,List.getElem?_set_ne (by omega),← List.getD_eq_getElem?_getD]
 ·rfl
theorem bq0 (l : List Iw) (hl : chk l = true) : ∀ (i : Nat) (q : List Iw),i≤l.length→q.length = l.length→(∀ j,j < i→q.getD j R6 = l.getD j R6)→Ev (fun k=>G0.l0 k q ((i : Int) - 1)) (aZ1 i q):=by
 have c1:=(ag0 hl).1
 intro i
 induction i with
 | zero=>
  intro q _ _ _
  refine Ev.step (fun _=>rfl) ?_
  simp only [G0.l0]
  exact Ev.neg (by omega) (Ev.now _)
 | succ i ih=>
  intro q hi hq he
  have hx : l[i]? = some l[i]:=List.getElem?_eq_getElem (by omega)
  have hxe:=(he i (by omega)).trans (by0 hx)
  have hr:=ih (aR5 q i) (by omega) (by rw [bj7];exact hq) (fun j hj=>(bx7 q i j hj).trans (he j (by omega)))
  rw [aZ1,show ((i + 1 : Nat) : Int) - 1 = (i : Int) by omega]
  refine Ev.step (fun _=>rfl) ?_
  simp only [G0.l0,rdI]
  unfold aR5 at hr ⊢
  rw [hxe] at hr ⊢
  rw [m7 (x:=(i : Int) - 1) (by omega) (by omega)]
  refine Ev.pos (by omega) (Ev.pos (by omega) (Ev.pos (by omega) ?_))
  by_cases h7 : l[i].f0 = 7
  ·obtain ⟨j1,j2⟩:=ba1 hl hx h7
   have e : wrap64 (wrap64 ((i : Int) + 1) + l[i].f1) = ((i + 1 + l[i].f1.toNat : Nat) : Int):=by rw [m7 (x:=(i : Int) + 1) (by omega) (by omega),m7 (by omega) (by omega)];omega
   rw [e,rdI]
   refine Ev.pos h7 (Ev.pos (by clear e;omega) (Ev.pos (by clear e;omega) ?_))
   by_cases h8 : (q.getD (i + 1 + l[i].f1.toNat) R6).f0 = 8
   ·rw [if_pos ⟨h7,h8⟩] at hr ⊢
    rw [Int.toNat_natCast]
    exact Ev.pos h8 hr
   ·rw [if_neg (fun h=>h8 h.2)] at hr ⊢
    exact Ev.neg h8 hr
  ·rw [if_neg (fun h=>h7 h.1)] at hr ⊢
   exact Ev.neg h7 hr
theorem aP6 (l : List Iw) (hn : l.length≤1048576) : Ev (fun k=>G0.f k l) (ba9 l):=by
 unfold G0.f ba9
 simp only [List.nil_append,List.length_nil]
 refine Ev.pos (by omega) (Ev.bind (Q6 l hn) ?_)
 by_cases hl : chk l = true
 ·rw [if_pos hl,m7 (x:=(l.length : Int) - 1) (by omega) (by omega)]
  exact Ev.pos hl (bq0 l hl l.length l (Nat.le_refl _) rfl (fun _ _=>rfl))
 ·rw [if_neg hl];exact Ev.neg hl (Ev.now _)
def trO (R : List Bool) (i : Nat) (x : Iw) : List Iw:=if R.getD i false = true then [tr R x i] else []
def aW3 (l : List Iw) : List Iw:=if chk l = true then S1 (trO (aw2 l)) 0 l else l
theorem bu3 (R : List Bool) (i : Nat) (x : Iw) : (trO R i x).length≤1:=by unfold trO;split <;> simp
theorem bF9 (l : List Iw) : (aW3 l).length≤l.length:=by
 unfold aW3;split
 ·have:=ay1 (trO (aw2 l)) 1 l 0 (fun i x _=>bu3 _ i x);omega
 ·exact Nat.le_refl _
def aw6 (l : List Iw) : List Iw:=aW3 (ba9 l)
theorem bx6 (l : List Iw) : (aw6 l).length≤l.length:=by
 unfold aw6
 have:=bF9 (ba9 l)
 rw [bm0] at this
 exact this
def AtP (n : Nat) (R : List Bool) (q : List Int) : Prop:=q.length = n∧∀ i,i < n→q.getD i 0 = (cnt R i : Int)
theorem bs8 {R : List Bool} {n i : Nat} (hn : n≤400) (hi : i≤n) : cnt R i≤400:=by
 have:=bR9 (R:=R) 0 i
 rw [bi4,Nat.zero_add] at this;omega
theorem be8 (l : List Iw) (hl : chk l = true) (R : List Bool) (hR : R.length = l.length) (q : List Int) (hq : AtP l.length R q) : Ev (fun k=>v6.l1 k l R q [] 0) (S1 (trO R) 0 l):=by
 have c1:=(ag0 hl).1
 have big:=fun i (h : i≤l.length)=>bs8 (R:=R) c1.2 h
 have h1:=hq.1
 refine bN4 (fun k o i=>v6.l1 k l R q o i) l (trO R) 1 _ (fun i x _=>bu3 R i x) ?_ ?_
 ·refine Ev.step (fun _=>rfl) ?_
  simp only [v6.l1]
  exact Ev.neg (by omega) (Ev.now _)
 ·intro i x o hx ho hr
  have hi:=G7 hx
  have hio:=ai1 (((ag0 hl).2.2 i x hx).1)
  refine Ev.step (fun _=>rfl) ?_
  simp only [v6.l1,rdI,by0 hx,rdB,ar3]
  refine Ev.pos (by omega) (Ev.pos (by omega) (Ev.pos (by omega) ?_))
  have ew : ∀ _ : Unit,wrap64 ((i : Int) + 1) = (i : Int) + 1:=fun _=>m7 (by omega) (by omega)
  unfold trO at hr
  by_cases hrt : R.getD i false = true
  ·rw [if_pos hrt] at hr
   refine Ev.pos hrt (Ev.bindc (aC6 x) ?_)
   have put : ∀ (a b c : Int),(⟨x.f0,a,b,c⟩ : Iw) = tr R x i→Ev (fun k=>v6.j0 k l R q o (i : Int) a b c) (S1 (trO R) 0 l):=fun a b c he=>by
    refine Ev.step (fun _=>rfl) ?_
    simp only [v6.j0,rdI,by0 hx]
    rw [he,ew ()]
    exact Ev.pos (by simp;omega) hr
   have at_ : ∀ d : Int,0≤d→i + 1 + d.toNat < l.length→wrap64 (wrap64 ((i : Int) + 1) + d) = ((i + 1 + d.toNat : Nat) : Int)∧wrap64 (wrap64 (q.getD (i + 1 + d.toNat) 0 - q.getD i 0) - 1) = (cnt R (i + 1 + d.toNat) : Int) - cnt R i - 1:=fun d h0 hd=>by
    have b1:=big (i + 1 + d.toNat) (by omega);have b2:=big i (by omega)
    refine ⟨by rw [ew (),m7 (by omega) (by omega)];omega,?_⟩
    rw [hq.2 _ hd,hq.2 i hi,m7 (x:=(cnt R (i + 1 + d.toNat) : Int) - (cnt R i : Int)) (by omega) (by omega),m7 (by omega) (by omega)]
   by_cases ha : 3≤x.f0∧x.f0≤6
   ·obtain ⟨⟨p1,p2⟩,p3,p4⟩:=bD7 hl hx ha
    refine Ev.pos (decide_eq_true ha) ?_
    rw [(at_ _ p1 p2).1,(at_ _ p3 p4).1,ar3,ar3,(at_ _ p1 p2).2,(at_ _ p3 p4).2]
    refine Ev.pos (by omega) (Ev.pos (by omega) (Ev.pos (by omega) (Ev.pos (by omega) (Ev.pos (by omega) (put _ _ _ ?_)))))
    unfold tr;rw [if_neg (by omega),if_pos ha]
   ·refine Ev.neg (by simpa using ha) ?_
    by_cases h7 : x.f0 = 7
    ·obtain ⟨p1,p2⟩:=ba1 hl hx h7
     refine Ev.pos h7 ?_
     rw [(at_ _ p1 p2).1,ar3,(at_ _ p1 p2).2]
     refine Ev.pos (by omega) (Ev.pos (by omega) (Ev.pos (by omega) (put _ _ _ ?_)))
     unfold tr;rw [if_pos h7]
    ·refine Ev.neg h7 (put _ _ _ ?_)
     unfold tr;rw [if_neg h7,if_neg ha]
  ·rw [if_neg hrt,List.append_nil] at hr
   rw [ew ()]
   exact Ev.neg hrt hr
theorem bF8 {l : List Iw} (hl : chk l = true) : (aw2 l).length = l.length:=by
 unfold aw2;rw [if_pos hl,aF7,List.length_set,List.length_replicate]
theorem aU9 (l : List Iw) (hn : l.length≤1048576) : Ev (fun k=>v6.f k l) (aW3 l):=by
 unfold v6.f aW3
 refine Ev.bind (Q6 l hn) ?_
 by_cases hl : chk l = true
 ·rw [if_pos hl]
  have c1:=(ag0 hl).1
  have hR:=bF8 hl
  refine Ev.pos hl (Ev.bind (aU3 l hn) (Ev.pos (by omega) ?_))
  rw [Int.toNat_natCast]
  refine Ev.pos (by omega) ?_
  generalize aw2 l = R at hR ⊢
  have big:=fun i (h : i≤l.length)=>bs8 (R:=R) c1.2 h
  have key : ∀ (d i : Nat) (q : List Int),l.length - i = d→i≤l.length→q.length = l.length→(∀ j,j < i→q.getD j 0 = (cnt R j : Int))→Ev (fun k=>v6.l0 k l R q (cnt R i : Int) (i : Int)) (S1 (trO R) 0 l):=by
   intro d
   induction d with
   | zero=>
    intro i q hd hi hq he
    refine Ev.step (fun _=>rfl) ?_
    simp only [v6.l0]
    exact Ev.neg (by omega) (be8 l hl R hR q ⟨hq,fun j hj=>he j (by omega)⟩)
   | succ d ih=>
    intro i q hd hi hq he
    have b:=big i (by omega)
    have hnext:=ih (i + 1) (q.set i (cnt R i : Int)) (by omega) (by omega) (by rw [List.length_set];exact hq) (fun j hj=>by
     by_cases hji : j = i
     ·subst hji;rw [List.getD_eq_getElem?_getD,List.getElem?_set_self (by omega)];rfl
     ·rw [List.getD_eq_getElem?_getD,List.getElem?_set_ne (by omega),← List.getD_eq_getElem?_getD];exact he j (by omega))
    refine Ev.step (fun _=>rfl) ?_
    simp only [v6.l0,rdB]
    rw [m7 (x:=(i : Int) + 1) (by omega) (by omega),m7 (x:=(cnt R i : Int) + 1) (by omega) (by omega),Int.toNat_natCast]
    refine Ev.pos (by omega) (Ev.pos (by omega) (Ev.pos (by omega) (Ev.pos (by omega) ?_)))
    rw [show ((i + 1 : Nat) : Int) = (i : Int) + 1 by omega] at hnext
    by_cases hr : R.getD i false = true
    ·rw [bV1 hr] at hnext
     exact Ev.pos hr (by rw [show ((cnt R i + 1 : Nat) : Int) = (cnt R i : Int) + 1 by omega] at hnext;exact hnext)
    ·rw [bm8 (by omega),if_neg hr] at hnext
     exact Ev.neg hr hnext
  have:=key l.length 0 (List.replicate l.length 0) rfl (Nat.zero_le _) List.length_replicate (fun j hj=>by omega)
  rw [bi4] at this
  exact this
 ·rw [if_neg hl]
  simp only [List.nil_append,List.length_nil]
  exact Ev.neg hl (Ev.pos (by omega) (Ev.now _))
theorem bf1 (l : List Iw) (hn : l.length≤1048576) : Ev (fun k=>af2.f k l) (aw6 l):=by
 unfold af2.f aw6
 exact Ev.bind (aP6 l hn) (Ev.bind (aU9 _ (by rw [bm0];exact hn)) (Ev.now _))
end Go.Proofs.YtahmbcgolnplgaaGreat.PFnNoHoles
namespace Go.Proofs.YtahmbcgolnplgaaGreat.PFnNoHoles
open Go Go.RowKit Go.Proofs.YtahmbcgolnplgaaGreatA Go.Proofs.YtahmbcgolnplgaaGreatL
abbrev Wd:=r7
theorem aG2 (a : Int) : x9.f a = some (decide (0≤a∧a≤4294967295)):=by
 have e0 : ∀ x lo hi : Int,j8.f x lo hi = some (decide (lo≤x∧x≤hi)):=Q4
 unfold x9.f;rw [e0];rfl
theorem aG1 (w : r7) : R9.f w.f0 w.f1 = some (ak4 w):=by
 unfold R9.f ak4
 simp only [aG2,Option.bind_some,aB1]
theorem aj2 (a n : Int) (l : List r7) (hl : l.length≤1048576) : Ev (fun k=>E5.f k a n l) (X6 a n l):=by
 unfold E5.f
 refine aN4 (fun k i=>E5.l0 k a n l i) l ak4 (av3 a n l.length) ?_ ?_ ?_
 ·refine Ev.step (fun _=>rfl) ?_
  simp only [E5.l0]
  refine Ev.neg (by omega) (Ev.const ?_)
  unfold av3
  simp only [aG2,Option.bind_some,aB1]
 ·intro i x hx hp
  have hi:=G7 hx
  refine Ev.step (fun _=>rfl) ?_
  simp only [E5.l0]
  rw [bO0 hx]
  exact Ev.pos (by omega) (Ev.pos (by omega) (Ev.bindc (aG1 x) (Ev.neg (by rw [hp];simp) (Ev.now _))))
 ·intro i x r hx hp h
  have hi:=G7 hx
  refine Ev.step (fun _=>rfl) ?_
  simp only [E5.l0]
  rw [bO0 hx,m7 (x:=(i : Int) + 1) (by omega) (by omega)]
  exact Ev.pos (by omega) (Ev.pos (by omega) (Ev.bindc (aG1 x) (Ev.pos hp h)))
theorem aD6 {a n : Int} {w : List Wd} (h : X6 a n w = true) : w.length = 3∧(0≤n∧n≤4294967295)∧∀ x ∈ w,(0≤x.f0∧x.f0≤4294967295)∧0≤x.f1∧x.f1≤4294967295:=by
 unfold X6 av3 at h
 simp only [Bool.and_eq_true,decide_eq_true_eq,beq_iff_eq,List.all_eq_true] at h
 refine ⟨by omega,h.2.2.1,fun x hx=>?_⟩
 have:=h.1 x hx
 unfold ak4 at this
 simpa using this
def bn5 (a n : Int) (w : List Wd) (k : Int) : Int:=if k = 0 then n else if k = 1 then a else if k % 2 = 0 then (w.getD (k / 2 - 1).toNat ah4).f1 else (w.getD (k / 2 - 1).toNat ah4).f0
theorem rdW (w : List Wd) (i : Int) : ac1 w i = w.getD i.toNat ah4:=rfl
theorem aV2 {a n : Int} {w : List Wd} (h : X6 a n w = true) (q : Int) (hq : 0≤q∧q < 8) : Ev (fun k=>aa9.f k a n w q) (bn5 a n w q,true):=by
 have h3:=(aD6 h).1
 have e:=aj2 a n w (by omega)
 rw [h] at e
 unfold aa9.f bn5
 refine Ev.bind e (Ev.pos rfl (Ev.bindc (M2 _ _ _) (Ev.pos (decide_eq_true (by omega)) ?_)))
 by_cases h0 : q = 0
 ·refine Ev.pos h0 ?_;rw [if_pos h0];exact (Ev.now _)
 refine Ev.neg h0 ?_;rw [if_neg h0]
 by_cases h1 : q = 1
 ·refine Ev.pos h1 ?_;rw [if_pos h1];exact (Ev.now _)
 refine Ev.neg h1 ?_;rw [if_neg h1]
 rw [Int.tmod_eq_emod_of_nonneg hq.1,Int.tdiv_eq_ediv_of_nonneg hq.1,m7 (x:=q / 2) (by omega) (by omega),m7 (x:=q / 2 - 1) (by omega) (by omega),rdW]
 by_cases h2 : q % 2 = 0
 ·refine Ev.pos h2 ?_;rw [if_pos h2];exact (Ev.pos (by omega) (Ev.pos (by omega) (Ev.now _)))
 ·refine Ev.neg h2 ?_;rw [if_neg h2];exact (Ev.pos (by omega) (Ev.pos (by omega) (Ev.now _)))
def aS6 (x : Iw) (r : Int) : Bool:=if x.f0 = 3 then r == x.f1 else if x.f0 = 4 then decide (r > x.f1) else if x.f0 = 5 then decide (r ≥ x.f1) else (bits .and .i64 r x.f1) != 0
theorem be4 (x : Iw) (r : Int) : V3.f x.f0 x.f1 x.f2 x.f3 r = some (aS6 x r):=by
 unfold V3.f aS6
 repeat' split
 all_goals rfl
def aj5 (l : List Iw) (a n : Int) (w : List Wd) : Nat→Int→Nat→Int→Int×Int
 | 0,_,_,_=>(0,0)
 | d + 1,r,i,s=>
  if (l.getD i R6).f0 = 1 then aj5 l a n w d (bn5 a n w (l.getD i R6).f1) (i + 1) (s + 1)
  else if (l.getD i R6).f0 = 2 then aj5 l a n w d (bits .and .i64 r (l.getD i R6).f1) (i + 1) (s + 1)
  else if (l.getD i R6).f0 = 7 then aj5 l a n w d r (i + 1 + (l.getD i R6).f1.toNat) (s + 1)
  else if (l.getD i R6).f0 = 8 then ((l.getD i R6).f1,s)
  else if aS6 (l.getD i R6) r = true then aj5 l a n w d r (i + 1 + (l.getD i R6).f2.toNat) (s + 1)
  else aj5 l a n w d r (i + 1 + (l.getD i R6).f3.toNat) (s + 1)
def bf9 (l : List Iw) (a n : Int) (w : List Wd) : Int×Int:=if chk l = true∧X6 a n w = true then aj5 l a n w l.length 0 0 1 else (0,0)
theorem bZ2 {l : List Iw} (hl : chk l = true) {i : Nat} {x : Iw} (hx : l[i]? = some x) : (x.f0≠8→i + 1 < l.length)∧(x.f0 = 1→0≤x.f1∧x.f1 < 8)∧(1≤x.f0∧x.f0≤8):=by
 obtain ⟨_,_,c3⟩:=ag0 hl
 obtain ⟨h1,h2⟩:=c3 i x hx
 have h3:=ai1 h1
 refine ⟨fun h8=>?_,fun h=>⟨h3.2.1.1,h3.2.2.2.2.2.1 h⟩,h3.1⟩
 unfold aG9 at h2
 split at h2
 ·omega
 ·split at h2
  ·omega
  ·first | omega | (rw [if_neg h8] at h2;omega)
theorem br3 (l : List Iw) (hl : chk l = true) {a n : Int} {w : List Wd} (hc : X6 a n w = true) : ∀ (d i : Nat) (r s : Int),l.length - i≤d→i < l.length→0≤s∧s≤(i : Int) + 1→Ev (fun k=>J6.l0 k l a n w r (i : Int) s) (aj5 l a n w d r i s):=by
 have c1:=(ag0 hl).1
 intro d
 induction d with
 | zero=>intro i r s h hi;omega
 | succ d ih=>
  intro i r s h hi hs
  have hx : l[i]? = some l[i]:=List.getElem?_eq_getElem hi
  obtain ⟨g1,g2,g3⟩:=bZ2 hl hx
  have next : ∀ (r' : Int) (j : Nat),i < j→j < l.length→Ev (fun k=>J6.j0 k l a n w s r' (j : Int)) (aj5 l a n w d r' j (s + 1)):=fun r' j h1 h2=>by
   refine Ev.step (fun _=>rfl) ?_
   simp only [J6.j0]
   rw [m7 (by omega) (by omega)]
   exact ih j r' (s + 1) (by omega) h2 (by omega)
  refine Ev.step (fun _=>rfl) ?_
  simp only [J6.l0,rdI,aj5]
  rw [by0 hx]
  refine Ev.pos (by omega) (Ev.pos (by omega) ?_)
  have ew : ∀ _ : Unit,wrap64 ((i : Int) + 1) = (i : Int) + 1:=fun _=>m7 (by omega) (by omega)
  rw [ew ()]
  by_cases h1 : l[i].f0 = 1
  ·refine Ev.pos h1 ?_;rw [if_pos h1]
   refine (Ev.bind (aV2 hc _ (g2 h1)) ?_)
   exact next _ (i + 1) (by omega) (g1 (by omega))
  refine Ev.neg h1 ?_;rw [if_neg h1]
  by_cases h2 : l[i].f0 = 2
  ·refine Ev.pos h2 ?_;rw [if_pos h2];exact (next _ (i + 1) (by omega) (g1 (by omega)))
  refine Ev.neg h2 ?_;rw [if_neg h2]
  by_cases h7 : l[i].f0 = 7
  ·refine Ev.pos h7 ?_;rw [if_pos h7]
   obtain ⟨p1,p2⟩:=ba1 hl hx h7
   rw [m7 (x:=(i : Int) + 1 + l[i].f1) (by omega) (by omega),show (i : Int) + 1 + l[i].f1 = ((i + 1 + l[i].f1.toNat : Nat) : Int) by omega]
   exact next _ _ (by omega) p2
  refine Ev.neg h7 ?_;rw [if_neg h7]
  by_cases h8 : l[i].f0 = 8
  ·refine Ev.pos h8 ?_;rw [if_pos h8];exact (Ev.now _)
  refine Ev.neg h8 ?_;rw [if_neg h8];refine (Ev.bindc (be4 l[i] r) ?_)
  obtain ⟨⟨p1,p2⟩,p3,p4⟩:=bD7 hl hx (by omega)
  rw [m7 (x:=(i : Int) + 1 + l[i].f2) (by omega) (by omega),m7 (x:=(i : Int) + 1 + l[i].f3) (by omega) (by omega),show (i : Int) + 1 + l[i].f2 = ((i + 1 + l[i].f2.toNat : Nat) : Int) by omega,show (i : Int) + 1 + l[i].f3 = ((i + 1 + l[i].f3.toNat : Nat) : Int) by omega]
  by_cases hh : aS6 l[i] r = true
  ·refine Ev.pos hh ?_;rw [if_pos hh];exact (next _ _ (by omega) p2)
  ·refine Ev.neg hh ?_;rw [if_neg hh];exact (next _ _ (by omega) p4)
theorem bq2 (l : List Iw) (hn : l.length≤1048576) (a n : Int) (w : List Wd) (hw : w.length≤1048576) : Ev (fun k=>J6.f k l a n w) (bf9 l a n w):=by
 unfold J6.f bf9
 refine Ev.bind (Q6 l hn) ?_
 by_cases hl : chk l = true
 ·refine Ev.pos hl (Ev.bind (aj2 a n w hw) ?_)
  by_cases hc : X6 a n w = true
  ·rw [if_pos ⟨hl,hc⟩]
   exact Ev.pos hc (br3 l hl hc l.length 0 0 1 (by omega) (ag0 hl).1.1 (by omega))
  ·rw [if_neg (fun h=>hc h.2)];exact Ev.neg hc (Ev.now _)
 ·rw [if_neg (fun h=>hl h.1)];exact Ev.neg hl (Ev.now _)
end Go.Proofs.YtahmbcgolnplgaaGreat.PFnNoHoles
namespace Go.Proofs.YtahmbcgolnplgaaGreat.PFnNoHoles
open Go Go.RowKit Go.Proofs.YtahmbcgolnplgaaGreatA Go.Proofs.YtahmbcgolnplgaaGreatL
def PlS (l : List (List Iw)) : Prop:=l.length≤1048576∧∀ x ∈ l,x.length≤1048576
theorem PlS.mem {l : List (List Iw)} (h : PlS l) {i : Nat} {x : List Iw} (hx : l[i]? = some x) : x.length≤1048576:=h.2 x (List.mem_of_getElem? hx)
theorem aH9 {α : Type} {l : List α} {z : α} {i : Nat} {x : α} (h : l[i]? = some x) : M0 z l (i : Int) = x:=by unfold M0;exact J8 l z h
theorem aM7 {α ρ : Type} (F : Nat→List α→Int→Option ρ) (l : List α) {X : ρ} (stop : Ev (fun k=>F k l (l.length : Int)) X)
 (step : ∀ (i : Nat) x out r,l[i]? = some x→out.length = i→Ev (fun k=>F k (out ++ [x]) ((i : Int) + 1)) r→Ev (fun k=>F k out (i : Int)) r) : Ev (fun k=>F k [] 0) X:=by
 have key : ∀ (d i : Nat),l.length - i = d→i≤l.length→Ev (fun k=>F k (l.take i) (i : Int)) X:=by
  intro d
  induction d with
  | zero=>
   intro i hd hi
   have : i = l.length:=by omega
   subst this
   rw [List.take_length];exact stop
  | succ d ih=>
   intro i hd hi
   have hlt : i < l.length:=by omega
   have hx : l[i]? = some l[i]:=List.getElem?_eq_getElem hlt
   refine step i _ _ X hx (by rw [List.length_take];omega) ?_
   have:=ih (i + 1) (by omega) (by omega)
   rw [List.take_add_one,hx] at this
   exact this
 exact key _ 0 rfl (Nat.zero_le _)
theorem au2 (l : List (List Iw)) (h : PlS l) : Ev (fun k=>D0.f k l) l:=by
 have hl:=h.1
 unfold D0.f
 refine aM7 (fun k out i=>D0.l0 k l out i) l ?_ ?_
 ·refine Ev.step (fun _=>rfl) ?_
  simp only [D0.l0];exact Ev.neg (by omega) (Ev.now _)
 ·intro i x out r hx ho hh
  have hi:=G7 hx
  have hf:=h.mem hx
  refine Ev.step (fun _=>rfl) ?_
  simp only [D0.l0,aH9 hx,List.nil_append,List.length_nil,List.length_cons]
  rw [m7 (x:=(i : Int) + 1) (by omega) (by omega)]
  exact Ev.pos (by omega) (Ev.pos (by omega) (Ev.pos (by omega) (Ev.pos (by first | omega | (simp only [List.length_cons,List.length_nil];omega)) hh)))
def ag6 (l : List (List Iw)) : Bool:=l.all chk && decide ((l.length : Int)≤3)
theorem ay8 (l : List (List Iw)) (h : PlS l) : Ev (fun k=>G4.f k l) (ag6 l):=by
 have hl:=h.1
 unfold G4.f ag6
 refine aN4 (fun k i=>G4.l0 k l i) l chk _ ?_ ?_ ?_
 ·refine Ev.step (fun _=>rfl) ?_
  simp only [G4.l0];exact Ev.neg (by omega) (Ev.now _)
 ·intro i x hx hp
  have hi:=G7 hx
  have e:=Q6 x (h.mem hx)
  refine Ev.step (fun _=>rfl) ?_
  simp only [G4.l0,aH9 hx]
  exact Ev.pos (by omega) (Ev.pos (by omega) (Ev.bind e (Ev.neg (by rw [hp];decide) (Ev.now _))))
 ·intro i x r hx hp hr
  have hi:=G7 hx
  have e:=Q6 x (h.mem hx)
  refine Ev.step (fun _=>rfl) ?_
  simp only [G4.l0,aH9 hx]
  rw [m7 (x:=(i : Int) + 1) (by omega) (by omega)]
  exact Ev.pos (by omega) (Ev.pos (by omega) (Ev.bind e (Ev.pos hp hr)))
def aL6 (l : List (List Iw)) (p : List Iw) : List (List Iw)×Bool:=if ag6 (l ++ [p]) = true then (l ++ [p],true) else (l,false)
theorem PlS.snoc {l : List (List Iw)} (h : l.length≤1000∧∀ x ∈ l,x.length≤1048576) {p : List Iw} (hp : p.length≤1048576) : PlS (l ++ [p]):=by
 refine ⟨by simp;omega,fun x hx=>?_⟩
 rcases List.mem_append.1 hx with hx | hx
 ·exact h.2 x hx
 ·rw [List.mem_singleton.1 hx];exact hp
theorem aN9 (l : List (List Iw)) (p : List Iw) (h : l.length≤1000∧∀ x ∈ l,x.length≤1048576) (hp : p.length≤1048576) : Ev (fun k=>V5.f k l p) (aL6 l p):=by
 have hc:=au2 l ⟨by omega,h.2⟩
 unfold V5.f aL6
 refine Ev.bind hc ?_
 simp only [List.nil_append,List.length_nil]
 refine Ev.pos (by omega) (Ev.pos (by first | omega | (simp only [List.length_cons,List.length_nil];omega)) (Ev.bind (ay8 _ (PlS.snoc h hp)) ?_))
 by_cases hs : ag6 (l ++ [p]) = true
 ·refine Ev.pos hs ?_;rw [if_pos hs];exact Ev.now _
 ·refine Ev.neg hs ?_;rw [if_neg hs];exact Ev.bind hc (Ev.now _)
def aK6 (r : Int) : Int:=if 0≤r∧r≤393215 then r / 65536 else 0
theorem al3 (r : Int) : P1.f r = some (aK6 r):=by
 unfold P1.f aK6
 rw [M2]
 simp only [Option.bind_some,decide_eq_true_eq]
 split
 ·rw [Int.tdiv_eq_ediv_of_nonneg (by omega),m7 (by omega) (by omega)]
 ·rfl
def aF1 (a b : Int) : Int:=if aK6 b < aK6 a then b else a
theorem aP8 (a b : Int) : Z1.f a b = some (aF1 a b):=by
 unfold Z1.f aF1
 rw [al3,al3]
 simp only [Option.bind_some]
 split <;> rfl
def bZ3 (a n : Int) (w : List Wd) (l : List (List Iw)) (r : Int) : Int:=l.foldl (fun r p=>aF1 (bf9 p a n w).1 r) r
def al0 (l : List (List Iw)) (a n : Int) (w : List Wd) : Int:=if ag6 l = true∧X6 a n w = true then bZ3 a n w l 327680 else 0
theorem bS7 {α σ ρ : Type} (L : Nat→σ→Int→Option ρ) (xs : List α) (f : σ→α→σ) (z : σ→ρ)
 (stop : ∀ s,Ev (fun k=>L k s (xs.length : Int)) (z s))
 (step : ∀ (i : Nat) x s r,xs[i]? = some x→Ev (fun k=>L k (f s x) ((i : Int) + 1)) r→Ev (fun k=>L k s (i : Int)) r) (s : σ) :
 Ev (fun k=>L k s 0) (z (xs.foldl f s)):=by
 have key : ∀ (d i : Nat) (s : σ),xs.length - i = d→i≤xs.length→Ev (fun k=>L k s (i : Int)) (z ((xs.drop i).foldl f s)):=by
  intro d
  induction d with
  | zero=>
   intro i s hd hi
   have : i = xs.length:=by omega
   subst this
   rw [List.drop_length]
   exact stop s
  | succ d ih=>
   intro i s hd hi
   have hlt : i < xs.length:=by omega
   rw [List.drop_eq_getElem_cons hlt]
   exact step i _ s _ (List.getElem?_eq_getElem hlt) (ih (i + 1) _ (by omega) (by omega))
 exact key _ 0 s rfl (Nat.zero_le _)
theorem aR4 (l : List (List Iw)) (h : PlS l) (a n : Int) (w : List Wd) (hw : w.length≤1048576) : Ev (fun k=>I6.f k l a n w) (al0 l a n w):=by
 have hl:=h.1
 unfold I6.f al0
 refine Ev.bind (ay8 l h) ?_
 by_cases hs : ag6 l = true
 ·refine Ev.pos hs (Ev.bind (aj2 a n w hw) ?_)
  by_cases hc : X6 a n w = true
  ·refine Ev.pos hc ?_
   rw [if_pos ⟨hs,hc⟩]
   refine Ev.bindc (show E8.f 5 0 = some 327680 from by kernel_rfl) ?_
   refine bS7 (fun k s i=>I6.l0 k l a n w s i) l (fun r p=>aF1 (bf9 p a n w).1 r) id ?_ ?_ 327680
   ·intro s;refine Ev.step (fun _=>rfl) ?_
    simp only [I6.l0];exact Ev.neg (by omega) (Ev.now _)
   ·intro i x s r hx hr
    have hi:=G7 hx
    refine Ev.step (fun _=>rfl) ?_
    simp only [I6.l0,aH9 hx]
    rw [m7 (x:=(i : Int) + 1) (by omega) (by omega)]
    exact Ev.pos (by omega) (Ev.pos (by omega) (Ev.bind (bq2 x (h.mem hx) a n w hw) (Ev.bindc (aP8 _ _) hr)))
  ·refine Ev.neg hc ?_
   rw [if_neg (fun h=>hc h.2)]
   exact Ev.bindc (show E8.f 0 0 = some 0 from by kernel_rfl) (Ev.now _)
 ·refine Ev.neg hs ?_
  rw [if_neg (fun h=>hs h.1)]
  exact Ev.bindc (show E8.f 0 0 = some 0 from by kernel_rfl) (Ev.now _)
theorem bp7 {l : List (List Iw)} (h : ag6 l = true) : l.length≤3∧∀ x ∈ l,x.length≤400:=by
 unfold ag6 at h
 simp only [Bool.and_eq_true,decide_eq_true_eq,List.all_eq_true] at h
 exact ⟨by omega,fun x hx=>(ag0 (h.1 x hx)).1.2⟩
theorem bH1 {l : List (List Iw)} (h : ag6 l = true) (p : List Iw) : ag6 (aL6 l p).1 = true:=by
 unfold aL6;split <;> assumption
end Go.Proofs.YtahmbcgolnplgaaGreat.PFnNoHoles
namespace Go.Proofs.YtahmbcgolnplgaaGreat.PFnNoHoles
open Go Go.RowKit Go.Proofs.YtahmbcgolnplgaaGreatA Go.Proofs.YtahmbcgolnplgaaGreatL
theorem bA0 {l : List u5} {i : Nat} {x : u5} (h : l[i]? = some x) : H2 l (i : Int) = x:=by
 unfold H2;simpa using J8 l z46 h
theorem bz6 {l : List A2} {i : Nat} {x : A2} (h : l[i]? = some x) : J4 l (i : Int) = x:=by
 unfold J4;simpa using J8 l aQ2 h
theorem cg5 {l : List D1} {i : Nat} {x : D1} (h : l[i]? = some x) : U6 l (i : Int) = x:=by
 unfold U6;simpa using J8 l z96 h
theorem ab6 (x : List Int) (h : x.length≤1048576) : I7.f x = some x:=by
 unfold I7.f
 simp only [Option.bind_some,List.length_nil,List.nil_append]
 rw [if_pos (by omega)]
theorem ac7 (x0 : List D1) (x1 : List Int) (x2 : List A2) (a : Int) (x4 : List Int) (h0 : x0.length≤1048576) (h1 : x1.length≤1048576) (h2 : x2.length≤1048576) (h4 : x4.length≤1048576) : I5.f x0 x1 x2 a x4 = some (x0,x1,x2,a,x4):=by
 unfold I5.f
 rw [ab6 x1 h1,ab6 x4 h4]
 simp only [Option.bind_some,List.length_nil,List.nil_append]
 rw [if_pos (by omega),if_pos (by omega)]
def I3 (x : u5) : Bool:=decide ((x.f0 = 1∧(0≤x.f1∧x.f1≤4294967295)∧(0≤x.f2∧x.f2≤4294967295)∧x.f3 = 0)∨(x.f0 = 2∧(1≤x.f3∧x.f3≤1000000000)∧x.f1 = 0∧x.f2 = 0))
theorem ao7 (x : u5) : T4.f x.f0 x.f1 x.f2 x.f3 = some (I3 x):=by
 have e0 : ∀ x lo hi : Int,j8.f x lo hi = some (decide (lo≤x∧x≤hi)):=Q4
 unfold T4.f I3 x9.f
 simp only [e0,Option.bind_some,aE3]
 congr 1;rw [Bool.eq_iff_iff]
 by_cases h1 : x.f0 = 1
 ·simp [h1]
 ·by_cases h2 : x.f0 = 2 <;> simp [h1,h2]
def E3 (a b : Int) (l : List u5) (c d : Int) : Bool:=l.all I3 && (decide ((0≤a∧a≤2)∧(1≤b∧b≤1000000000)∧l.length≤3∧(0≤c∧c≤1000000000)∧(d = 1∨d = 2∨d = 4)))
theorem av9 (l : List u5) (hn : l.length≤1048576) : Ev (fun k=>E7.f k l) (l.all I3):=by
 unfold E7.f
 refine bW4 (fun k i=>E7.l0 k l i) l I3 ?_ ?_ ?_
 ·refine Ev.step (f:=fun _=>some true) (fun k=>?_) (Ev.now _)
  simp only [E7.l0];rw [if_neg (by omega)]
 ·intro i x hx h
  have hi:=G7 hx
  refine Ev.step (f:=fun _=>some false) (fun k=>?_) (Ev.now _)
  simp only [E7.l0]
  rw [if_pos (by omega),if_pos (by omega),bA0 hx,ao7,h]
  rfl
 ·intro i x r hx h hr
  have hi:=G7 hx
  refine Ev.step (fun k=>?_) hr
  simp only [E7.l0]
  rw [if_pos (by omega),if_pos (by omega),bA0 hx,ao7,h,m7 (by omega) (by omega)]
  rfl
theorem af8 (a b : Int) (l : List u5) (c d : Int) (hn : l.length≤1048576) : Ev (fun k=>L8.f k a b l c d) (E3 a b l c d):=by
 have e1:=av9 l hn
 unfold L8.f aa4.f E3
 have e0 : ∀ x lo hi : Int,j8.f x lo hi = some (decide (lo≤x∧x≤hi)):=Q4
 simp only [e0,Option.bind_some,decide_eq_true_eq,aE3]
 refine Ev.both (fun h1=>Ev.both (fun h2=>Ev.both (fun h3=>Ev.bind e1 (Ev.some_ ?_)) (fun h3=>Ev.some_ ?_)) (fun h2=>Ev.some_ ?_)) (fun h1=>Ev.some_ ?_)
 ·cases l.all I3
  ·simp
  ·simp only [if_true,Bool.true_and]
   rw [Bool.eq_iff_iff]
   by_cases h8 : d = 1 <;> by_cases h9 : d = 2 <;> simp [h8,h9] <;> omega
 ·rw [decide_eq_false (by omega)];simp
 ·rw [decide_eq_false (by omega)];simp
 ·rw [decide_eq_false (by omega)];simp
theorem ah2 {a b : Int} {l : List u5} {c d : Int} (h : E3 a b l c d = true) : l.all I3 = true∧(0≤a∧a≤2)∧(1≤b∧b≤1000000000)∧l.length≤3∧(0≤c∧c≤1000000000)∧(d = 1∨d = 2∨d = 4):=by
 unfold E3 at h
 rw [Bool.and_eq_true] at h
 exact ⟨h.1,of_decide_eq_true h.2⟩
theorem ad8 (l : List u5) (hn : l.length≤1048576) : K1.f l = some l:=by
 unfold K1.f
 simp only [Option.bind_some,List.length_nil,List.nil_append]
 rw [if_pos (by omega)]
theorem X1 (a b : Int) (l : List u5) (c d : Int) (hn : l.length≤1048576) : F3.f a b l c d = some (a,b,l,c,d):=by
 unfold F3.f
 rw [ad8 l hn];rfl
abbrev It:=u5
theorem ab4 (l : List It) (a b c : Int) (hn : l.length≤1048576) : I8.f l a b c = some (l,a,b,c):=by
 unfold I8.f
 rw [ad8 l hn];rfl
def O1 (l : List It) (a b c : Int) : List It×Int×Int×Int×Int×Int×Int×Int×Bool:=
 if (l.length : Int) > 0 then (l.drop 1,a,b,c,(H2 l 0).f0,(H2 l 0).f1,(H2 l 0).f2,(H2 l 0).f3,true) else if b = 0 then (l,a,b,c,0,0,0,0,false) else (l,a,0,c,2,0,0,b,true)
theorem aV4 (l : List It) (a b c : Int) (hn : l.length≤1048576) : ab3.f l a b c = some (O1 l a b c):=by
 unfold ab3.f O1
 rw [ab4 l a b c hn]
 simp only [Option.bind_some]
 by_cases h : (l.length : Int) > 0
 ·rw [if_pos h,if_pos h,if_pos (by omega),if_pos (by omega),ad8 _ (by simp;omega)];rfl
 ·rw [if_neg h,if_neg h];split <;> rfl
def aa3 (x : It) : Int:=if x.f0 = 2 then x.f3 else 1
def ao8 (l : List It) (s : Int) : Int:=l.foldl (fun s x=>wrap64 (s + aa3 x)) s
def am5 (l : List It) (a b c : Int) : Bool:=decide (l.length≤4∧(0≤a∧a≤5)∧(0≤b∧b≤1000000000)∧(0≤c∧c≤1000000000))
def Q8 (l : List It) (a b c : Int) : Bool:=am5 l a b c && (l.all I3 && decide (ao8 l b≤c))
theorem aP4 (l : List It) (a b c : Int) (hn : l.length≤1048576) (ho : l.all I3 = true) (s : Int) : Ev (fun k=>H6.l0 k l a b c s 0) (decide (ao8 l s≤c)):=by
 have:=aE7 (σ:=Int) (ρ:=Bool) (fun k s i=>H6.l0 k l a b c s i) l (fun s x=>.ok (wrap64 (s + aa3 x))) (fun s=>decide (s≤c)) (fun _ _=>True) ?_ ?_ ?_ l.length 0 s rfl (Nat.zero_le _) trivial
 ·refine Ev.eq ?_ (by simpa using this)
  clear this hn ho
  induction l generalizing s with
  | nil=>rfl
  | cons x r ih=>rw [ao3 r rfl,ih];rfl
 ·intro s _
  refine Ev.step (f:=fun _=>some (decide (s≤c))) (fun k=>?_) (Ev.now _)
  simp only [H6.l0];rw [if_neg (by omega)]
 ·intro i x s e hx hs he;cases he
 ·intro i x s s' hx hs he
  have hi:=G7 hx
  injection he with he;subst he
  refine ⟨trivial,fun r hr=>?_⟩
  refine Ev.step (fun k=>?_) hr
  have hx' : I3 x = true:=List.all_eq_true.1 ho x (List.mem_of_getElem? hx)
  simp only [H6.l0]
  rw [if_pos (by omega),if_pos (by omega),bA0 hx,m7 (x:=(i : Int) + 1) (by omega) (by omega)]
  unfold I3 at hx'
  rw [decide_eq_true_eq] at hx'
  unfold aa3
  rcases hx' with h | h
  ·rw [if_pos h.1,if_neg (by omega)]
  ·rw [if_neg (by omega),if_pos h.1]
theorem aC0 (l : List It) (a b c : Int) (hn : l.length≤1048576) : Ev (fun k=>H6.f k l a b c) (Q8 l a b c):=by
 have e0:=av9 l hn
 have e2 : ∀ x lo hi : Int,j8.f x lo hi = some (decide (lo≤x∧x≤hi)):=Q4
 unfold H6.f Q8
 by_cases h0 : (l.length : Int) > 4
 ·exact Ev.pos h0 (Ev.some_ (by rw [show am5 l a b c = false from decide_eq_false (by omega)];rfl))
 refine Ev.neg h0 (Ev.bind e0 ?_)
 cases ho : l.all I3 with
 | false=>exact Ev.neg (by simp) (Ev.some_ (by simp))
 | true=>
  have e1:=aP4 l a b c hn ho b
  generalize decide (ao8 l b≤c) = z at e1
  have no : ∀ h : am5 l a b c = false,(am5 l a b c && (true && z)) = false:=fun h=>by rw [h];rfl
  have yes : ∀ h : am5 l a b c = true,(am5 l a b c && (true && z)) = z:=fun h=>by rw [h];rfl
  refine Ev.pos rfl (Ev.bindc (e2 _ _ _) (Ev.both (fun h1=>Ev.bindc (e2 _ _ _) (Ev.both (fun h2=>Ev.bindc (e2 _ _ _) (Ev.both (fun h3=>Ev.eq (yes ?_).symm e1) (fun h3=>Ev.some_ (no ?_).symm))) (fun h2=>Ev.some_ (no ?_).symm))) (fun h1=>Ev.some_ (no ?_).symm)))
  all_goals simp only [decide_eq_true_eq] at *
  ·exact decide_eq_true (by omega)
  ·exact decide_eq_false (by omega)
  ·exact decide_eq_false (by omega)
  ·exact decide_eq_false (by omega)
def ac2 (a b : Int) (l : List It) (c d : Int) (R : List It) (ra rb rc now : Int) : Bool:=E3 a b l c d && (Q8 R ra rb rc && ((O1 R ra rb rc).2.2.2.2.2.2.2.2 && decide ((l.length : Int) < 3∧0≤now∧now≤1000000000)))
def ar0 (a b : Int) (l : List It) (c d : Int) (R : List It) (ra rb rc now : Int) : Int×Int×List It×Int×Int×List It×Int×Int×Int×Bool:=
 if ac2 a b l c d R ra rb rc now = true then (a,b,l ++ [⟨(O1 R ra rb rc).2.2.2.2.1,(O1 R ra rb rc).2.2.2.2.2.1,(O1 R ra rb rc).2.2.2.2.2.2.1,(O1 R ra rb rc).2.2.2.2.2.2.2.1⟩],now,1,(O1 R ra rb rc).1,(O1 R ra rb rc).2.1,(O1 R ra rb rc).2.2.1,(O1 R ra rb rc).2.2.2.1,true)
 else (a,b,l,c,d,R,ra,rb,rc,false)
theorem be5 (a b : Int) (l : List It) (c d : Int) (R : List It) (ra rb rc now : Int) (hl : l.length≤1048576) (hR : R.length≤1048576) : Ev (fun k=>J5.f k a b l c d R ra rb rc now) (ar0 a b l c d R ra rb rc now):=by
 have e2 : ∀ x lo hi : Int,j8.f x lo hi = some (decide (lo≤x∧x≤hi)):=Q4
 unfold J5.f
 have jT : ac2 a b l c d R ra rb rc now = false→Ev (fun k=>J5.j0 k a b l c d R ra rb rc now (O1 R ra rb rc) true) (ar0 a b l c d R ra rb rc now):=by
  intro h
  refine Ev.step (fun _=>rfl) ?_
  simp only [J5.j0]
  refine Ev.pos (by simp) (Ev.bindc (X1 a b l c d hl) (Ev.bindc (ab4 R ra rb rc hR) (Ev.some_ ?_)))
  unfold ar0;rw [if_neg (by rw [h];simp)]
 have jF : ac2 a b l c d R ra rb rc now = true→Ev (fun k=>J5.j0 k a b l c d R ra rb rc now (O1 R ra rb rc) false) (ar0 a b l c d R ra rb rc now):=by
  intro h
  refine Ev.step (fun _=>rfl) ?_
  simp only [J5.j0]
  refine Ev.neg (by simp) (Ev.bindc (X1 a b l c d hl) (Ev.pos (by simp;omega) (Ev.some_ ?_)))
  unfold ar0;rw [if_pos h]
 refine Ev.bindc (aV4 R ra rb rc hR) (Ev.bind (af8 a b l c d hl) ?_)
 cases h1 : E3 a b l c d with
 | false=>exact Ev.neg (by simp) (jT (by simp [ac2,h1]))
 | true=>
  have h0:=(ah2 h1).2.2.2.1
  refine Ev.pos rfl (Ev.bind (aC0 R ra rb rc hR) ?_)
  cases h2 : Q8 R ra rb rc with
  | false=>exact Ev.neg (by simp) (jT (by simp [ac2,h2]))
  | true=>
   refine Ev.pos rfl ?_
   by_cases h4 : (l.length : Int) = 3
   ·exact Ev.pos h4 (jT (by simp [ac2];omega))
   ·refine Ev.neg h4 ?_
    cases h3 : (O1 R ra rb rc).2.2.2.2.2.2.2.2 with
    | false=>exact Ev.neg (by simp) (jT (by simp [ac2,h3]))
    | true=>
     refine Ev.pos rfl (Ev.bindc (e2 _ _ _) ?_)
     by_cases h5 : 0≤now∧now≤1000000000
     ·rw [decide_eq_true h5];exact jF (by simp [ac2,h1,h2,h3];omega)
     ·rw [decide_eq_false h5];exact jT (by simp [ac2];omega)
theorem aI5 (N : List Int) (p v : Int) (h0 : 0≤p) (h1 : p < (N.length : Int)) : rd (N.set p.toNat v) p = v:=by
 unfold rd
 rw [List.getD_eq_getElem?_getD,List.getElem?_set_self (by omega)];rfl
abbrev KR:=List D1×List Int×List A2×Int×List Int×Bool
def bH6 (l : List Int) : Prop:=∀ v ∈ l,-9223372036854775808≤v∧v≤9223372036854775807
theorem bH6.set {l : List Int} (h : bH6 l) (i : Nat) {v : Int} (hv : -9223372036854775808≤v∧v≤9223372036854775807) : bH6 (l.set i v):=by
 intro u hu
 rcases List.mem_or_eq_of_mem_set hu with hu | rfl
 ·exact h u hu
 ·exact hv
def KE (p : Int) (N : List Int) (a : Int) (A : List Int) (Inv : List D1→List A2→Int→Prop) (r : KR) : Prop:=∃ L' E' x',r = (L',N.set p.toNat x',E',a,A,true)∧Inv L' E' x'∧(200≤L'.length∨∀ y ∈ E',¬ (y.f0 = p∧y.f1 = x'))
def av7 (a b : Int) (l : List u5) (c d now : Int) : Int×Int×(List u5)×Int×Int×Bool:=if E3 a b l c d = true∧l.length≠0∧c + d≤now then (a,b,l,now,min 4 (2 * d),true) else (a,b,l,c,d,false)
theorem aI0 {a b : Int} {l : List u5} {c d now : Int} (h : ¬ (E3 a b l c d = true∧l.length≠0∧c + d≤now)) : (a,b,l,c,d,false) = av7 a b l c d now:=by unfold av7;rw [if_neg h]
theorem bv6 {a b : Int} {l : List u5} {c d now : Int} (h : E3 a b l c d = true∧l.length≠0∧c + d≤now) : (a,b,l,now,min 4 (2 * d),true) = av7 a b l c d now:=by unfold av7;rw [if_pos h]
theorem aF9 (a b : Int) (l : List u5) (c d now : Int) (hn : l.length≤1048576) (hw : -9223372036854775808≤now∧now≤9223372036854775807) : Ev (fun k=>U1.f k a b l c d now) (av7 a b l c d now):=by
 unfold U1.f
 refine Ev.bindc (X1 a b l c d hn) (Ev.bind (af8 a b l c d hn) ?_)
 cases hs : E3 a b l c d with
 | false=>exact Ev.eq (aI0 (fun x=>by rw [hs] at x;exact absurd x.1 (by simp))) (Ev.neg (by simp) (Ev.now _))
 | true=>
  obtain ⟨_,ha,hb,hl,hc,hd⟩:=ah2 hs
  refine Ev.pos rfl ?_
  by_cases h0 : l.length = 0
  ·exact Ev.eq (aI0 (fun x=>x.2.1 h0)) (Ev.pos (by omega) (Ev.now _))
  ·refine Ev.neg (by omega) ?_
   rw [m7 (x:=c + d) (by omega) (by omega)]
   by_cases h1 : c + d > now
   ·exact Ev.eq (aI0 (fun x=>by omega)) (Ev.pos h1 (Ev.now _))
   ·refine Ev.eq (bv6 ⟨hs,h0,by omega⟩) (Ev.neg h1 (Ev.some_ ?_))
    rw [m7 (x:=2 * d) (by omega) (by omega)]
def ak2 (a b : Int) (l : List u5) (c d q : Int) : Int×Int×(List u5)×Int×Int:=if E3 a b l c d = true∧b + 1≤q∧q≤b + l.length then (a,q,l.drop (q - b).toNat,c,1) else (a,b,l,c,d)
theorem aF8 (a b : Int) (l : List u5) (c d q : Int) (hn : l.length≤1048576) : Ev (fun k=>Z8.f k a b l c d q) (ak2 a b l c d q):=by
 unfold Z8.f
 refine Ev.bindc (X1 a b l c d hn) (Ev.bind (af8 a b l c d hn) ?_)
 dsimp only
 cases hs : E3 a b l c d with
 | false=>refine Ev.neg (by simp) (Ev.some_ ?_);unfold ak2;rw [hs,if_neg (by simp)]
 | true=>
  obtain ⟨_,ha,hb,hl,hc,hd⟩:=ah2 hs
  refine Ev.pos rfl ?_
  have e0 : ∀ x lo hi : Int,j8.f x lo hi = some (decide (lo≤x∧x≤hi)):=Q4
  rw [e0,m7 (x:=b + 1) (by omega) (by omega),m7 (x:=b + (l.length : Int)) (by omega) (by omega)]
  refine Ev.bindc rfl ?_
  unfold ak2
  by_cases h : b + 1≤q∧q≤b + (l.length : Int)
  ·refine Ev.pos (by simpa using h) ?_
   rw [m7 (x:=q - b) (by omega) (by omega)]
   refine Ev.pos (by omega) (Ev.pos (by omega) ?_)
   refine Ev.bindc (ad8 _ (by rw [List.length_drop];omega)) (Ev.some_ ?_)
   rw [if_pos ⟨hs,h.1,h.2⟩]
  ·refine Ev.neg (by simpa using h) (Ev.some_ ?_)
   rw [if_neg (fun x=>h ⟨x.2.1,x.2.2⟩)]
def aB5 (p n : Int) (s : List P9) (x : u5) : Except (List P9) (List P9):=.ok (s ++ [⟨1,p,n + (s.length : Int),x⟩])
def aL2 (a b : Int) (l : List u5) (c d : Int) : List P9:=if E3 a b l c d = true then ab7 (aB5 a b) id l [] else []
theorem aO7 (p n : Int) : ∀ (l : List u5) (s : List P9),(ab7 (aB5 p n) id l s).length = s.length + l.length
 | [],s=>by simp [ab7]
 | x :: r,s=>by
  rw [ao3 r (show aB5 p n s x = .ok _ from rfl),aO7 p n r]
  simp;omega
theorem bh4 (a b : Int) (l : List u5) (c d : Int) : (aL2 a b l c d).length≤l.length:=by
 unfold aL2
 split
 ·rw [aO7];simp
 ·simp
theorem aH6 (a b : Int) (l : List u5) (c d : Int) (hn : l.length≤1048576) : Ev (fun k=>N6.f k a b l c d) (aL2 a b l c d):=by
 unfold N6.f aL2
 have e0:=af8 a b l c d hn
 refine Ev.bind e0 ?_
 cases hs : E3 a b l c d with
 | false=>rw [if_neg (by simp)];exact Ev.neg (by simp) (Ev.now _)
 | true=>
  rw [if_pos rfl]
  refine Ev.pos rfl ?_
  obtain ⟨_,ha,hb,hl,_⟩:=ah2 hs
  have:=aE7 (fun k s i=>N6.l0 k a b l c d s i) l (aB5 a b) id (fun i s=>s.length = i) ?_ ?_ ?_ l.length 0 [] rfl (Nat.zero_le _) rfl
  ·simpa using this
  ·intro s hs
   refine Ev.step (f:=fun _=>some s) (fun k=>?_) (Ev.now _)
   simp only [N6.l0];rw [if_neg (by omega)]
  ·intro i x s e hx hs he;cases he
  ·intro i x s s' hx hs he
   have hi:=G7 hx
   obtain rfl : s ++ [⟨1,a,b + (s.length : Int),x⟩] = s':=by injection he
   refine ⟨by simp;omega,fun r h=>?_⟩
   refine Ev.step (fun k=>?_) h
   simp only [N6.l0]
   rw [if_pos (by omega),if_pos (by omega),if_pos (by simp;omega),bA0 hx,m7 (x:=(i : Int) + 1) (by omega) (by omega),m7 (x:=b + (i : Int)) (by omega) (by omega),hs]
theorem al6 (n : Int) (h₀ : 0≤n) (h₁ : n < 2 ^ 63) : IntKind.i64.wrap n = n:=by rw [IntKind.wrap_i64];omega
theorem bc9 (n : Int) (h₀ : 0≤n) (h₁ : n < 2 ^ 32) : IntKind.u32.wrap n = n:=by rw [IntKind.wrap_u32];omega
theorem bT0 {x : Int} (h₀ : 0≤x) (h₁ : x < 9223372036854775808) : Go.bits .and .i64 x 127 = x % 128:=bits_mask .i64 63 (by decide) al6 7 (by decide) x h₀ h₁
theorem cd7 {x : Int} (h₀ : 0≤x) (h₁ : x < 4294967296) : Go.bits .and .u32 x 1 = x % 2:=bits_mask .u32 32 (by decide) bc9 1 (by decide) x h₀ h₁
theorem bg7 (k : IntKind) (a b : Int) : Go.bits .or k a b = Go.bits .or k b a:=by simp only [Go.bits];rw [BitVec.or_comm]
theorem bZ0 {y : Int} (h₀ : 0≤y) (h₁ : y < 128) : Go.bits .or .i64 y 128 = y + 128:=by
 rw [bg7,bits_join .i64 63 (by decide) al6 7 128 y (by decide) (by decide) (by decide) h₀ h₁ (by omega)];omega
theorem aB6 (a b : Int) : Go.bits .xor .u32 a b = ((BitVec.ofInt 32 a ^^^ BitVec.ofInt 32 b).toNat : Int):=by
 show IntKind.u32.wrap (((BitVec.ofInt 32 a ^^^ BitVec.ofInt 32 b).toNat : Nat) : Int) = _
 have h:=(BitVec.ofInt 32 a ^^^ BitVec.ofInt 32 b).isLt
 rw [IntKind.wrap_u32]
 omega
theorem bb2 {a b : Int} (ha : 0≤a∧a < 4294967296) (hb : 0≤b∧b < 4294967296) (h : BitVec.ofInt 32 a = BitVec.ofInt 32 b) : a = b:=by
 have:=congrArg BitVec.toNat h
 rw [BitVec.toNat_ofInt,BitVec.toNat_ofInt] at this
 omega
theorem bs9 {a b p : Int} (ha : 0≤a∧a < 4294967296) (hb : 0≤b∧b < 4294967296) (h : Go.bits .xor .u32 a p = Go.bits .xor .u32 b p) : a = b:=by
 rw [aB6,aB6] at h
 have h1 : BitVec.ofInt 32 a ^^^ BitVec.ofInt 32 p = BitVec.ofInt 32 b ^^^ BitVec.ofInt 32 p:=BitVec.eq_of_toNat_eq (by omega)
 refine bb2 ha hb ?_
 have:=congrArg (· ^^^ BitVec.ofInt 32 p) h1
 simpa [BitVec.xor_assoc] using this
theorem bK6 {a p q : Int} (hp : 0≤p∧p < 4294967296) (hq : 0≤q∧q < 4294967296) (h : Go.bits .xor .u32 a p = Go.bits .xor .u32 a q) : p = q:=by
 rw [aB6,aB6] at h
 have h1 : BitVec.ofInt 32 a ^^^ BitVec.ofInt 32 p = BitVec.ofInt 32 a ^^^ BitVec.ofInt 32 q:=BitVec.eq_of_toNat_eq (by omega)
 refine bb2 hp hq ?_
 have:=congrArg (BitVec.ofInt 32 a ^^^ ·) h1
 simpa [← BitVec.xor_assoc] using this
theorem bt9 {a : Int} (ha : 0≤a∧a < 2147483648) : 2147483648≤Go.bits .xor .u32 a 3558460437:=by
 rw [aB6]
 have h1 : (BitVec.ofInt 32 a).msb = false:=by
  rw [BitVec.msb_eq_false_iff_two_mul_lt,BitVec.toNat_ofInt];omega
 have h2 : (BitVec.ofInt 32 3558460437).msb = true:=by decide
 have h3 : (BitVec.ofInt 32 a ^^^ BitVec.ofInt 32 3558460437).msb = true:=by rw [BitVec.msb_xor,h1,h2];rfl
 rw [BitVec.msb_eq_true_iff_two_mul_ge] at h3
 omega
def rnd (x : Int) : Int:=if x % 2 = 1 then Go.bits .xor .u32 (x / 2) 3558460437 else x / 2
theorem ae3 (a b : Int) : 0≤Go.bits .xor .u32 a b∧Go.bits .xor .u32 a b < 4294967296:=by
 rw [aB6]
 have h:=(BitVec.ofInt 32 a ^^^ BitVec.ofInt 32 b).isLt
 omega
theorem aS8 {x : Int} (hx : 0≤x∧x < 4294967296) : 0≤rnd x∧rnd x < 4294967296:=by
 unfold rnd
 split
 ·exact ae3 _ _
 ·omega
theorem bP2 {x y : Int} (hx : 0≤x∧x < 4294967296) (hy : 0≤y∧y < 4294967296) (h : rnd x = rnd y) : x = y:=by
 unfold rnd at h
 by_cases h1 : x % 2 = 1
 ·have t1:=bt9 (a:=x / 2) (by omega)
  by_cases h2 : y % 2 = 1
  ·rw [if_pos h1,if_pos h2] at h
   have:=bs9 (by omega) (by omega) h
   omega
  ·rw [if_pos h1,if_neg h2] at h;omega
 ·by_cases h2 : y % 2 = 1
  ·have t2:=bt9 (a:=y / 2) (by omega)
   rw [if_neg h1,if_pos h2] at h;omega
  ·rw [if_neg h1,if_neg h2] at h;omega
def aI2 : Nat→Int→Int
 | 0,x=>x
 | n + 1,x=>aI2 n (rnd x)
theorem am3 : ∀ (n : Nat) {x : Int},0≤x∧x < 4294967296→0≤aI2 n x∧aI2 n x < 4294967296
 | 0,_,h=>h
 | n + 1,_,h=>am3 n (aS8 h)
theorem aR6 : ∀ (n : Nat) {x y : Int},0≤x∧x < 4294967296→0≤y∧y < 4294967296→aI2 n x = aI2 n y→x = y
 | 0,_,_,_,_,h=>h
 | n + 1,_,_,hx,hy,h=>bP2 hx hy (aR6 n (aS8 hx) (aS8 hy) h)
def az8 : List Int→Int→Int
 | [],x=>x
 | b :: l,x=>az8 l (aI2 8 (Go.bits .xor .u32 x b))
theorem bv3 : ∀ (l : List Int) {x : Int},0≤x∧x < 4294967296→0≤az8 l x∧az8 l x < 4294967296
 | [],_,h=>h
 | b :: l,_,_=>bv3 l (am3 8 (ae3 _ _))
theorem bo8 : ∀ (l : List Int) {x y : Int},0≤x∧x < 4294967296→0≤y∧y < 4294967296→az8 l x = az8 l y→x = y
 | [],_,_,_,_,h=>h
 | b :: l,_,_,hx,hy,h=>bs9 hx hy (aR6 8 (ae3 _ _) (ae3 _ _) (bo8 l (am3 8 (ae3 _ _)) (am3 8 (ae3 _ _)) h))
theorem be2 : ∀ (l m : List Int) (b c x : Int),0≤x∧x < 4294967296→(0≤b∧b < 4294967296)→(0≤c∧c < 4294967296)→az8 (l ++ b :: m) x = az8 (l ++ c :: m) x→b = c
 | [],m,b,c,x,hx,hb,hc,h=>bK6 hb hc (aR6 8 (ae3 _ _) (ae3 _ _) (bo8 m (am3 8 (ae3 _ _)) (am3 8 (ae3 _ _)) h))
 | a :: l,m,b,c,x,hx,hb,hc,h=>be2 l m b c _ (am3 8 (ae3 _ _)) hb hc h
theorem aR9 {s : ByteArray} {i : Nat} (h : i < s.size) : (s9 s)[i]? = some (bt s (i : Int))∧0≤bt s (i : Int)∧bt s (i : Int) < 256:=by
 have hl : i < s.data.toList.length:=by rw [Array.length_toList];exact h
 have e : bt s (i : Int) = ((s.data.toList[i].toNat : Nat) : Int):=by
  unfold bt
  rw [dif_pos (by simpa using h)]
  simp
  rfl
 have hb:=UInt8.toNat_lt s.data.toList[i]
 refine ⟨?_,by omega,by omega⟩
 unfold s9
 rw [List.getElem?_map,List.getElem?_eq_getElem hl,e];rfl
theorem bp5 (s : ByteArray) (i : Nat) (hi : i < s.size) (hn : s.size≤100000000) (r : Int) : ∀ (d j : Nat) (x : Int),j + d = 8→0≤x∧x < 4294967296→Ev (fun k=>C2.l1 k s (aI2 d x) ((i : Int) + 1)) r→Ev (fun k=>C2.l0 k s (i : Int) x (j : Int)) r:=by
 intro d
 induction d with
 | zero=>
  intro j x hj hx h
  refine Ev.step (fun _=>rfl) ?_
  simp only [C2.l0]
  rw [m7 (x:=(i : Int) + 1) (by omega) (by omega)]
  exact Ev.neg (by omega) h
 | succ d ih=>
  intro j x hj hx h
  have h2:=ih (j + 1) (rnd x) (by omega) (aS8 hx) h
  refine Ev.step (fun _=>rfl) ?_
  simp only [C2.l0]
  rw [m7 (x:=(j : Int) + 1) (by omega) (by omega),cd7 hx.1 hx.2,show x.fdiv (2 ^ 1) = x / 2 from Int.fdiv_eq_ediv_of_nonneg _ (by decide)]
  refine Ev.pos (by omega) ?_
  unfold rnd at h2
  by_cases h1 : x % 2 = 1
  ·rw [if_pos h1] at h2;exact Ev.pos h1 h2
  ·rw [if_neg h1] at h2;exact Ev.neg h1 h2
def ah3 (s : ByteArray) : Int:=az8 (s9 s) 4294967295
theorem bB0 (s : ByteArray) (hn : s.size≤100000000) : ∀ (d i : Nat) (x : Int),s.size - i = d→i≤s.size→0≤x∧x < 4294967296→Ev (fun k=>C2.l1 k s x (i : Int)) (az8 ((s9 s).drop i) x):=by
 intro d
 induction d with
 | zero=>
  intro i x hd hi hx
  obtain rfl : i = s.size:=by omega
  rw [List.drop_of_length_le (by rw [x7];omega)]
  refine Ev.step (fun _=>rfl) ?_
  simp only [C2.l1];exact Ev.neg (by omega) (Ev.now _)
 | succ d ih=>
  intro i x hd hi hx
  obtain ⟨hb,b0,b1⟩:=aR9 (s:=s) (i:=i) (by omega)
  have hl : i < (s9 s).length:=by rw [x7];omega
  have e : (s9 s)[i] = bt s (i : Int):=by rw [List.getElem?_eq_getElem hl] at hb;exact Option.some.inj hb
  have hr:=ih (i + 1) (aI2 8 (Go.bits .xor .u32 x (bt s (i : Int)))) (by omega) (by omega) (am3 8 (ae3 _ _))
  rw [List.drop_eq_getElem_cons hl,e]
  refine Ev.step (fun _=>rfl) ?_
  simp only [C2.l1]
  rw [bc9 (bt s (i : Int)) (by omega) (by omega)]
  exact Ev.pos (by omega) (Ev.pos (by omega) (bp5 s i (by omega) hn _ 8 0 _ rfl (ae3 _ _) hr))
theorem aG4 (s : ByteArray) (hn : s.size≤100000000) : Ev (fun k=>aa2.f k s) (ah3 s):=by
 unfold aa2.f C2.f;exact Ev.bind (bB0 s hn s.size 0 4294967295 rfl (Nat.zero_le _) (by omega)) (Ev.now _)
theorem aA2 (l : List Int) (h : ∀ x ∈ l,0≤x∧x < 256) : s9 (strOfNums l) = l:=by
 unfold s9 strOfNums
 simp only [List.map_map]
 refine (List.map_congr_left (g:=id) fun x hx=>?_).trans (List.map_id l)
 have:=h x hx
 simp only [Function.comp,id]
 rw [UInt8.toNat_ofNat']
 omega
theorem ag8 (a b : ByteArray) : s9 (a ++ b) = s9 a ++ s9 b:=by
 unfold s9
 simp
theorem am8 (s : ByteArray) (n : Nat) : s9 (s.extract 0 n) = (s9 s).take n:=by
 unfold s9
 simp [ByteArray.data_extract]
theorem aq3 {a b : ByteArray} (h : s9 a = s9 b) : a = b:=by
 unfold s9 at h
 have h2 : a.data.toList = b.data.toList:=by
  refine (List.map_inj_right (f:=fun x : UInt8=>(x.toNat : Int)) (fun x y hxy=>?_)).1 h
  exact UInt8.toNat_inj.1 (by omega)
 cases a;cases b
 simp at h2
 rw [h2]
theorem bU4 (s : ByteArray) (i : Nat) (h : i < s.size) : bt s (i : Int) = (s[i].toNat : Int):=by simp [bt,h]
theorem aF5 (xs ys : List Int) : strOfNums (xs ++ ys) = strOfNums xs ++ strOfNums ys:=by
 apply ByteArray.ext;simp [strOfNums]
theorem aQ5 (s : ByteArray) (i : Nat) (h : i < s.size) : strOfNums [bt s (i : Int) % 256] = s.extract i (i + 1):=by
 rw [ByteArray.extract_add_one (by omega)]
 have hb : ((s[i].toNat : Int) % 256).toNat = s[i].toNat:=by have:=s[i].toNat_lt;omega
 apply ByteArray.ext
 simp [strOfNums,bU4 s i h,hb]
theorem aI1 (s : ByteArray) (i : Nat) (h : i + 1 < s.size) : strOfNums [bt s (i : Int) % 256,bt s ((i + 1 : Nat) : Int) % 256] = s.extract i (i + 2):=by
 rw [ByteArray.extract_eq_extract_append_extract (i + 1) (by omega) (by omega),← aQ5 s i (by omega),← aQ5 s (i + 1) (by omega),← aF5];rfl
theorem bA4 (s : ByteArray) (i : Nat) (h : i + 3 < s.size) : strOfNums [bt s (i : Int) % 256,bt s ((i + 1 : Nat) : Int) % 256,bt s ((i + 2 : Nat) : Int) % 256,bt s ((i + 3 : Nat) : Int) % 256] = s.extract i (i + 4):=by
 rw [ByteArray.extract_eq_extract_append_extract (i + 2) (by omega) (by omega),← aI1 s i (by omega),← aI1 s (i + 2) (by omega),← aF5];rfl
def S7 (s : ByteArray) (i : Nat) : Int:=bt s (i : Int) * 16777216 + bt s ((i + 1 : Nat) : Int) * 65536 + bt s ((i + 2 : Nat) : Int) * 256 + bt s ((i + 3 : Nat) : Int)
def L5 (n : Int) : ByteArray:=strOfNums [(n / 16777216) % 256,(n / 65536) % 256,(n / 256) % 256,n % 256]
theorem bj8 (s : ByteArray) (i : Nat) : 0≤S7 s i∧S7 s i < 4294967296:=by
 have h0:=O3 s (i : Int);have h1:=O3 s ((i + 1 : Nat) : Int);have h2:=O3 s ((i + 2 : Nat) : Int);have h3:=O3 s ((i + 3 : Nat) : Int)
 unfold S7;omega
theorem aM5 (s : ByteArray) (i : Nat) (h : i + 3 < s.size) : L5 (S7 s i) = s.extract i (i + 4):=by
 rw [← bA4 s i h]
 have h0:=O3 s (i : Int);have h1:=O3 s ((i + 1 : Nat) : Int);have h2:=O3 s ((i + 2 : Nat) : Int);have h3:=O3 s ((i + 3 : Nat) : Int)
 unfold L5 S7
 congr 1
 simp only [List.cons.injEq,and_true]
 refine ⟨by omega,by omega,by omega,by omega⟩
theorem ao0 (s : ByteArray) (i : Nat) (h : i + 3 < s.size) (hs : s.size≤100000000) : S0.f s (i : Int) = some (S7 s i):=by
 have h0:=O3 s (i : Int);have h1:=O3 s ((i + 1 : Nat) : Int);have h2:=O3 s ((i + 2 : Nat) : Int);have h3:=O3 s ((i + 3 : Nat) : Int)
 unfold S0.f S7
 rw [m7 (x:=(i : Int) + 1) (by omega) (by omega),m7 (x:=(i : Int) + 2) (by omega) (by omega),m7 (x:=(i : Int) + 3) (by omega) (by omega)]
 rw [show (i : Int) + 1 = ((i + 1 : Nat) : Int) by omega,show (i : Int) + 2 = ((i + 2 : Nat) : Int) by omega,show (i : Int) + 3 = ((i + 3 : Nat) : Int) by omega]
 rw [if_pos (by omega),if_pos (by omega),if_pos (by omega),if_pos (by omega),if_pos (by omega),if_pos (by omega),if_pos (by omega),if_pos (by omega)]
 generalize bt s (i : Int) = b0 at *;generalize bt s ((i + 1 : Nat) : Int) = b1 at *;generalize bt s ((i + 2 : Nat) : Int) = b2 at *;generalize bt s ((i + 3 : Nat) : Int) = b3 at *
 rw [m7 (x:=b0) (by omega) (by omega),m7 (x:=b1) (by omega) (by omega),m7 (x:=b2) (by omega) (by omega),m7 (x:=b3) (by omega) (by omega)]
 rw [show (2 : Int) ^ 24 = 16777216 from rfl,show (2 : Int) ^ 16 = 65536 from rfl,show (2 : Int) ^ 8 = 256 from rfl]
 rw [m7 (x:=b0 * 16777216) (by omega) (by omega),m7 (x:=b1 * 65536) (by omega) (by omega),m7 (x:=b2 * 256) (by omega) (by omega)]
 rw [bits_join .i64 63 (by decide) al6 24 (b0 * 16777216) (b1 * 65536) (by omega) (by omega) (by omega) (by omega) (by omega) (by omega)]
 rw [bits_join .i64 63 (by decide) al6 16 (b0 * 16777216 + b1 * 65536) (b2 * 256) (by omega) (by omega) (by omega) (by omega) (by omega) (by omega)]
 rw [bits_join .i64 63 (by decide) al6 8 (b0 * 16777216 + b1 * 65536 + b2 * 256) b3 (by omega) (by omega) (by omega) (by omega) (by omega) (by omega)]
def as3 (t : ByteArray) : ByteArray×Bool:=if (4≤t.size∧t.size≤20004)∧ah3 (t.extract 0 (t.size - 4)) = S7 t (t.size - 4) then (t.extract 0 (t.size - 4),true) else (ByteArray.empty,false)
theorem bl1 {t : ByteArray} (hs : 4≤t.size∧t.size≤20004) (he : ah3 (t.extract 0 (t.size - 4)) = S7 t (t.size - 4)) : as3 t = (t.extract 0 (t.size - 4),true):=if_pos ⟨hs,he⟩
theorem aL4 {t : ByteArray} (h : ¬ ((4≤t.size∧t.size≤20004)∧ah3 (t.extract 0 (t.size - 4)) = S7 t (t.size - 4))) : as3 t = (ByteArray.empty,false):=if_neg h
theorem aW8 (s : ByteArray) : 0≤ah3 s∧ah3 s < 4294967296:=bv3 _ (by omega)
theorem aw5 (t : ByteArray) (h : t.size≤1048576) : Ev (fun k=>X8.f k t) (as3 t):=by
 unfold X8.f
 rw [m7 (x:=(t.size : Int) - 4) (by omega) (by omega)]
 refine Ev.bindc (M2 _ _ _) ?_
 by_cases hs : 4≤t.size∧t.size≤20004
 ·rw [show (t.size : Int) - 4 = ((t.size - 4 : Nat) : Int) by omega,Int.toNat_natCast]
  have hsum:=aG4 (t.extract 0 (t.size - 4)) (by rw [ByteArray.size_extract];omega)
  have hin:=aW8 (t.extract 0 (t.size - 4))
  have hf:=ao0 t (t.size - 4) (by omega) (by omega)
  refine Ev.pos (decide_eq_true (by omega)) (Ev.pos (by omega) (Ev.pos (by omega) (Ev.bind hsum (Ev.bindc hf ?_))))
  rw [m7 (x:=ah3 (t.extract 0 (t.size - 4))) (by omega) (by omega)]
  by_cases he : ah3 (t.extract 0 (t.size - 4)) = S7 t (t.size - 4)
  ·rw [bl1 hs he];exact Ev.pos he (Ev.now _)
  ·rw [aL4 (fun h=>he h.2)];exact Ev.neg he (Ev.now _)
 ·rw [aL4 (fun h=>hs h.1)]
  exact Ev.neg (by rw [decide_eq_true_eq];omega) (Ev.now _)
theorem an7 {s : ByteArray} {i : Nat} (h : i < s.size) : bt s (i : Int) = (s9 s).getD i 0:=by
 rw [List.getD_eq_getElem?_getD,(aR9 h).1];rfl
theorem bz9 {s t : ByteArray} {i : Nat} {v : Int} (hi : i < s.size) (hv : 0≤v∧v < 256) (hne : v≠(s9 s).getD i 0) (ht : s9 t = (s9 s).set i v) (hs : (as3 s).2 = true) : (as3 t).2 = false:=by
 have hlen : t.size = s.size:=by rw [← x7 t,ht,List.length_set,x7]
 by_cases hc : (4≤s.size∧s.size≤20004)∧ah3 (s.extract 0 (s.size - 4)) = S7 s (s.size - 4)
 ·obtain ⟨h1,h2⟩:=hc
  rw [aL4]
  rintro ⟨_,h3⟩
  rw [hlen] at h3
  have hsl : i < (s9 s).length:=by rw [x7];exact hi
  have tb : ∀ j,j < s.size→bt t (j : Int) = if j = i then v else bt s (j : Int):=fun j hj=>by
   rw [an7 (by omega),an7 hj,ht,List.getD_eq_getElem?_getD,List.getD_eq_getElem?_getD,List.getElem?_set]
   by_cases hji : i = j
   ·subst hji;rw [if_pos rfl,if_pos hsl,if_pos rfl];rfl
   ·rw [if_neg hji,if_neg (Ne.symm hji)]
  have hb:=(aR9 hi).2
  rw [← an7 hi] at hne
  by_cases hin : i < s.size - 4
  ·have e4 : S7 t (s.size - 4) = S7 s (s.size - 4):=by
    unfold S7
    rw [tb _ (by omega),tb _ (by omega),tb _ (by omega),tb _ (by omega),if_neg (by omega),if_neg (by omega),if_neg (by omega),if_neg (by omega)]
   rw [e4,← h2] at h3
   unfold ah3 at h3
   rw [am8,am8,ht,List.take_set] at h3
   have hl2 : i < ((s9 s).take (s.size - 4)).length:=by rw [List.length_take,x7];omega
   have e1 : (s9 s).take (s.size - 4) = ((s9 s).take (s.size - 4)).take i ++ bt s (i : Int) :: ((s9 s).take (s.size - 4)).drop (i + 1):=by
    have hx : ((s9 s).take (s.size - 4))[i] = bt s (i : Int):=by
     have:=(aR9 hi).1
     rw [List.getElem?_eq_getElem hsl] at this
     rw [List.getElem_take];exact Option.some.inj this
    rw [← hx,← List.drop_eq_getElem_cons hl2,List.take_append_drop]
   rw [List.set_eq_take_append_cons_drop,if_pos hl2] at h3
   have h4:=h3.trans (congrArg (fun l=>az8 l 4294967295) e1)
   exact hne (be2 _ _ v (bt s (i : Int)) _ (by omega) (by omega) (by omega) h4)
  ·have et : t.extract 0 (s.size - 4) = s.extract 0 (s.size - 4):=aq3 (by rw [am8,am8,ht,List.take_set_of_le (by omega)])
   rw [et,h2] at h3
   unfold S7 at h3
   rw [tb _ (by omega),tb _ (by omega),tb _ (by omega),tb _ (by omega)] at h3
   have r0:=O3 s ((s.size - 4 : Nat) : Int);have r1:=O3 s ((s.size - 4 + 1 : Nat) : Int);have r2:=O3 s ((s.size - 4 + 2 : Nat) : Int);have r3:=O3 s ((s.size - 4 + 3 : Nat) : Int)
   have hcase : i = s.size - 4∨i = s.size - 4 + 1∨i = s.size - 4 + 2∨i = s.size - 4 + 3:=by omega
   rcases hcase with h | h | h | h <;> rw [h] at hne
   ·rw [if_pos h.symm,if_neg (show ¬ s.size - 4 + 1 = i by omega),if_neg (show ¬ s.size - 4 + 2 = i by omega),if_neg (show ¬ s.size - 4 + 3 = i by omega)] at h3;omega
   ·rw [if_neg (show ¬ s.size - 4 = i by omega),if_pos h.symm,if_neg (show ¬ s.size - 4 + 2 = i by omega),if_neg (show ¬ s.size - 4 + 3 = i by omega)] at h3;omega
   ·rw [if_neg (show ¬ s.size - 4 = i by omega),if_neg (show ¬ s.size - 4 + 1 = i by omega),if_pos h.symm,if_neg (show ¬ s.size - 4 + 3 = i by omega)] at h3;omega
   ·rw [if_neg (show ¬ s.size - 4 = i by omega),if_neg (show ¬ s.size - 4 + 1 = i by omega),if_neg (show ¬ s.size - 4 + 2 = i by omega),if_pos h.symm] at h3;omega
 ·rw [aL4 hc] at hs;cases hs
theorem cd8 (x : Int) : x.fdiv (2 ^ 24) = x / 16777216:=Int.fdiv_eq_ediv_of_nonneg _ (by decide)
theorem cg4 (x : Int) : x.fdiv (2 ^ 16) = x / 65536:=Int.fdiv_eq_ediv_of_nonneg _ (by decide)
theorem fd8 (x : Int) : x.fdiv (2 ^ 8) = x / 256:=Int.fdiv_eq_ediv_of_nonneg _ (by decide)
theorem fd7 (x : Int) : x.fdiv (2 ^ 7) = x / 128:=Int.fdiv_eq_ediv_of_nonneg _ (by decide)
theorem au5 (x : Int) : X2.f x = some (L5 x):=by
 unfold X2.f L5
 rw [cd8,cg4,fd8,IntKind.wrap_u8,IntKind.wrap_u8,IntKind.wrap_u8,IntKind.wrap_u8]
theorem P4 (n : Int) : (L5 n).size = 4:=by unfold L5;rw [strOfNums_size];rfl
theorem aD1 {a b : Int} (ha : 0≤a∧a < 256) (hb : 0≤b∧b < 256) (h : UInt8.ofNat a.toNat = UInt8.ofNat b.toNat) : a = b:=by
 have:=congrArg UInt8.toNat h
 simp [UInt8.toNat_ofNat'] at this
 omega
theorem bd4 {a b : Int} (ha : 0≤a∧a < 4294967296) (hb : 0≤b∧b < 4294967296) (h : L5 a = L5 b) : a = b:=by
 unfold L5 strOfNums at h
 simp only [List.map_cons,List.map_nil,ByteArray.mk.injEq,List.toArray_eq_toArray_eq,List.cons.injEq,and_true] at h
 have e0:=aD1 (by omega) (by omega) h.1
 have e1:=aD1 (by omega) (by omega) h.2.1
 have e2:=aD1 (by omega) (by omega) h.2.2.1
 have e3:=aD1 (by omega) (by omega) h.2.2.2
 omega
theorem bC9 {a b : ByteArray} : a.toList = b.toList↔a = b:=by
 rw [ByteArray.toList_eq,ByteArray.toList_eq]
 constructor
 ·intro h;exact ByteArray.ext (Array.toList_inj.1 h)
 ·rintro rfl;rfl
theorem aD5 {a b : ByteArray} : ((a.toList == b.toList) = true)↔a = b:=by rw [beq_iff_eq];exact bC9
def V0 : Nat→Int→List Int
 | 0,n=>[n % 256]
 | d + 1,n=>if n > 127 then (n % 128 + 128) :: V0 d (n / 128) else [n % 256]
def N2 (n : Int) : ByteArray:=strOfNums (V0 4 n)
theorem bk0 : ∀ (d : Nat) (n : Int),1≤(V0 d n).length∧(V0 d n).length≤d + 1
 | 0,n=>by simp [V0]
 | d + 1,n=>by
  unfold V0
  have:=bk0 d (n / 128)
  split <;> simp <;> omega
theorem ae8 (n : Int) : 1≤(N2 n).size∧(N2 n).size≤5:=by
 have:=bk0 4 n
 unfold N2
 rw [strOfNums_size]
 omega
theorem bc2 : ∀ (d : Nat) (n : Int),∀ x ∈ V0 d n,0≤x∧x < 256
 | 0,n,x,h=>by unfold V0 at h;rw [List.mem_singleton] at h;omega
 | d + 1,n,x,h=>by
  unfold V0 at h
  split at h
  ·rcases List.mem_cons.1 h with h | h
   ·omega
   ·exact bc2 d _ x h
  ·rw [List.mem_singleton] at h;omega
theorem bl8 (n : Int) : s9 (N2 n) = V0 4 n:=aA2 _ (bc2 4 n)
theorem bp2 : ∀ (d : Nat) (n : Int) (out : List Int),0≤n→n < 128 ^ (d + 1)→out.length + d≤1000→n < 9223372036854775808→Ev (fun k=>F2.l0 k n out) (strOfNums (out ++ V0 d n),true):=by
 intro d
 induction d with
 | zero=>
  intro n out h0 h1 hl _
  refine Ev.step (fun _=>rfl) ?_
  simp only [F2.l0]
  refine Ev.neg (by omega) (Ev.pos (by simp;omega) ?_)
  rw [IntKind.wrap_u8];exact Ev.now _
 | succ d ih=>
  intro n out h0 h1 hl h2
  have hp : (128 : Int) ^ (d + 1 + 1) = 128 ^ (d + 1) * 128:=Int.pow_succ _ _
  refine Ev.step (fun _=>rfl) ?_
  simp only [F2.l0]
  unfold V0
  by_cases h : n > 127
  ·rw [if_pos h]
   refine Ev.pos h (Ev.pos (by simp;omega) ?_)
   rw [bT0 h0 h2,bZ0 (by omega) (by omega),IntKind.wrap_u8,fd7,show (n % 128 + 128) % 256 = n % 128 + 128 by omega,show out ++ (n % 128 + 128) :: V0 d (n / 128) = (out ++ [n % 128 + 128]) ++ V0 d (n / 128) by simp]
   exact ih (n / 128) _ (by omega) (by omega) (by simp;omega) (by omega)
  ·rw [if_neg h]
   refine Ev.neg h (Ev.pos (by simp;omega) ?_)
   rw [IntKind.wrap_u8];exact Ev.now _
theorem aq5 (n : Int) (h0 : 0≤n) (h1 : n≤1000000000) : Ev (fun k=>F2.f k n) (N2 n,true):=by
 unfold F2.f
 exact Ev.bindc (M2 _ _ _) (Ev.pos (by simp;omega) (bp2 4 n [] h0 (by omega) (by simp) (by omega)))
theorem pw1 : ∀ j : Nat,j < 5→(2 : Int) ^ min (7 * (j : Int)).toNat IntKind.i64.bits = 128 ^ j:=by decide
theorem pw2 : ∀ j : Nat,j < 5→(2 : Int) ^ (7 * j) = 128 ^ j:=by decide
theorem pw3 : ∀ j : Nat,j < 6→1≤(128 : Int) ^ j∧(128 : Int) ^ j≤34359738368:=by decide
theorem aQ3 (j : Nat) (hj : j < 5) (n c : Int) (h0 : 0≤n) (h1 : n < 128 ^ j) (c0 : 0≤c) (c1 : c < 128) : Go.bits .or .i64 n (wrap64 (c * 2 ^ min (wrap64 (7 * (j : Int))).toNat IntKind.i64.bits)) = n + c * 128 ^ j:=by
 have hp:=pw3 j (by omega)
 have m0 : 0≤c * 128 ^ j:=Int.mul_nonneg c0 (by omega)
 have m1 : c * 128 ^ j≤127 * 34359738368:=Int.mul_le_mul (by omega) hp.2 (by omega) (by omega)
 have hm : (c * 128 ^ j) % 128 ^ j = 0:=Int.mul_emod_left _ _
 rw [m7 (x:=7 * (j : Int)) (by omega) (by omega),pw1 j hj,m7 (x:=c * 128 ^ j) (by omega) (by omega),bg7]
 rw [bits_join .i64 63 (by decide) al6 (7 * j) (c * 128 ^ j) n m0 (by rw [pw2 j hj];exact hm) (by omega) h0 (by rw [pw2 j hj];exact h1) (by omega)]
 omega
theorem bG9 (n : Int) (h₀ : 0≤n) (h₁ : n < 2 ^ 8) : IntKind.u8.wrap n = n:=by rw [IntKind.wrap_u8];omega
theorem bl9 {x : Int} (h₀ : 0≤x) (h₁ : x < 256) : Go.bits .and .u8 x 127 = x % 128:=bits_mask .u8 8 (by decide) bG9 7 (by decide) x h₀ h₁
theorem bz3 (s : ByteArray) (hs : s.size≤100000000) (a e : Nat) (m : Int) (hm : 0≤m∧m≤1000000000) (he : e≤s.size) (hx : N2 m = s.extract a e) : ∀ (d j : Nat) (n r : Int),j + d = 4→0≤n→n < 128 ^ j→0≤r→r < 128 ^ (d + 1)→n + r * 128 ^ j = m→(∀ i,i < (V0 d r).length→bt s ((a + j + i : Nat) : Int) = (V0 d r).getD i 0)→e = a + j + (V0 d r).length→Ev (fun k=>G5.l0 k s (a : Int) n (j : Int)) (m,(e : Int),true):=by
 intro d
 induction d with
 | zero=>
  intro j n r hj h0 h1 r0 r1 hmr hb hl
  have hb0:=hb 0 (by simp [V0])
  have e0 : (V0 0 r).getD 0 0 = r:=by simp [V0];omega
  rw [e0] at hb0
  have el : (V0 0 r).length = 1:=rfl
  rw [el] at hl
  have hor:=aQ3 j (by omega) n r h0 h1 r0 (by omega)
  refine Ev.step (fun _=>rfl) ?_
  simp only [G5.l0]
  have wa : ∀ _ : Unit,wrap64 ((a : Int) + (j : Int)) = ((a + j + 0 : Nat) : Int):=fun _=>by rw [m7 (by omega) (by omega)];omega
  have wa1 : ∀ _ : Unit,wrap64 (((a + j + 0 : Nat) : Int) + 1) = (e : Int):=fun _=>by rw [m7 (by omega) (by omega)];omega
  rw [wa (),hb0,bl9 r0 (by omega),show r % 128 = r by omega,m7 (x:=r) (by omega) (by omega),hor,hmr,wa1 ()]
  exact Ev.pos (by omega) (Ev.pos (by omega) (Ev.pos (by omega) (Ev.pos (by rw [m7 (by omega) (by omega)];omega) (Ev.neg (by omega) (Ev.bind (aq5 m hm.1 hm.2) (Ev.pos rfl (Ev.pos (by omega) (Ev.pos (by omega) (Ev.pos (by omega) (Ev.pos (aD5.2 hx) (Ev.now _)))))))))))
 | succ d ih=>
  intro j n r hj h0 h1 r0 r1 hmr hb hl
  have hpe : (128 : Int) ^ (j + 1) = 128 ^ j * 128:=Int.pow_succ _ _
  have hpd : (128 : Int) ^ (d + 1 + 1) = 128 ^ (d + 1) * 128:=Int.pow_succ _ _
  have hp:=pw3 j (by omega)
  have wa : ∀ _ : Unit,wrap64 ((a : Int) + (j : Int)) = ((a + j + 0 : Nat) : Int):=fun _=>by rw [m7 (by omega) (by omega)];omega
  have wj : ∀ _ : Unit,wrap64 ((j : Int) + 1) = ((j + 1 : Nat) : Int):=fun _=>by rw [m7 (by omega) (by omega)];omega
  by_cases h : r > 127
  ·have ev : V0 (d + 1) r = (r % 128 + 128) :: V0 d (r / 128):=by rw [V0];exact if_pos h
   rw [ev] at hb hl
   have hb0:=hb 0 (by simp)
   rw [List.getD_cons_zero] at hb0
   rw [List.length_cons] at hl
   have hor:=aQ3 j (by omega) n (r % 128) h0 h1 (by omega) (by omega)
   have m0 : 0≤(r % 128) * 128 ^ j:=Int.mul_nonneg (by omega) (by omega)
   have m1 : (r % 128) * 128 ^ j≤127 * 128 ^ j:=Int.mul_le_mul_of_nonneg_right (by omega) (by omega)
   refine Ev.step (fun _=>rfl) ?_
   simp only [G5.l0]
   rw [wa (),hb0,bl9 (by omega) (by omega),show (r % 128 + 128) % 128 = r % 128 by omega,m7 (x:=r % 128) (by omega) (by omega),hor,wj ()]
   refine Ev.pos (by omega) (Ev.pos (by omega) (Ev.pos (by omega) (Ev.pos (by rw [m7 (by omega) (by omega)];omega) (Ev.pos (by omega) ?_))))
   refine ih (j + 1) _ (r / 128) (by omega) (by omega) (by omega) (by omega) (by omega) ?_ (fun i hi=>?_) (by omega)
   ·rw [hpe,← hmr,show r / 128 * (128 ^ j * 128) = (128 * (r / 128)) * 128 ^ j by rw [Int.mul_comm (128 ^ j) 128,← Int.mul_assoc,Int.mul_comm (r / 128) 128],Int.add_assoc,← Int.add_mul,Int.emod_add_mul_ediv]
   ·have:=hb (i + 1) (by simp;omega)
    rw [List.getD_cons_succ] at this
    rw [← this];congr 2;omega
  ·have ev : V0 (d + 1) r = [r % 256]:=by rw [V0];exact if_neg h
   rw [ev] at hb hl
   have hb0:=hb 0 (by simp)
   rw [List.getD_cons_zero,show r % 256 = r by omega] at hb0
   have el : [r % 256].length = 1:=rfl
   rw [el] at hl
   have hor:=aQ3 j (by omega) n r h0 h1 r0 (by omega)
   have wa1 : ∀ _ : Unit,wrap64 (((a + j + 0 : Nat) : Int) + 1) = (e : Int):=fun _=>by rw [m7 (by omega) (by omega)];omega
   refine Ev.step (fun _=>rfl) ?_
   simp only [G5.l0]
   rw [wa (),hb0,bl9 r0 (by omega),show r % 128 = r by omega,m7 (x:=r) (by omega) (by omega),hor,hmr,wa1 ()]
   exact Ev.pos (by omega) (Ev.pos (by omega) (Ev.pos (by omega) (Ev.pos (by rw [m7 (by omega) (by omega)];omega) (Ev.neg (by omega) (Ev.bind (aq5 m hm.1 hm.2) (Ev.pos rfl (Ev.pos (by omega) (Ev.pos (by omega) (Ev.pos (by omega) (Ev.pos (aD5.2 hx) (Ev.now _)))))))))))
theorem ah5 (s : ByteArray) (a e : Nat) : s9 (s.extract a e) = ((s9 s).take e).drop a:=by
 unfold s9
 simp [ByteArray.data_extract,List.drop_take,List.map_take,List.map_drop]
theorem aR8 (s : ByteArray) (hs : s.size≤100000000) (a e : Nat) (m : Int) (hm : 0≤m∧m≤1000000000) (ha : a≤e) (he : e≤s.size) (hx : N2 m = s.extract a e) : Ev (fun k=>G5.f k s (a : Int)) (m,(e : Int),true):=by
 have hb : V0 4 m = ((s9 s).take e).drop a:=by rw [← bl8,hx,ah5]
 have hl : (V0 4 m).length = e - a:=by rw [hb,List.length_drop,List.length_take,x7];omega
 unfold G5.f
 refine Ev.bindc (M2 _ _ _) (Ev.pos (by simp;omega) ?_)
 refine bz3 s hs a e m hm he hx 4 0 0 m rfl (by omega) (by omega) hm.1 (by omega) (by omega) (fun i hi=>?_) (by omega)
 rw [an7 (by omega),hb,List.getD_eq_getElem?_getD,List.getD_eq_getElem?_getD,List.getElem?_drop,List.getElem?_take_of_lt (by omega)]
 rfl
def frB (x0 x1 x2 x3 x4 x5 x6 : Int) : ByteArray:=((((strOfNums [x0 % 256,x1 % 256] ++ N2 x2) ++ strOfNums [x3 % 256]) ++ L5 x4) ++ L5 x5) ++ N2 x6
def aZ5 (t : ByteArray) : ByteArray×Bool:=if t.size≤20000 then (t ++ L5 (ah3 t),true) else (ByteArray.empty,false)
theorem aw8 (x0 x1 x2 x3 x4 x5 x6 : Int) : (frB x0 x1 x2 x3 x4 x5 x6).size = 11 + (N2 x2).size + (N2 x6).size:=by
 unfold frB;simp only [ByteArray.size_append,strOfNums_size,P4,List.length_cons,List.length_nil];omega
theorem bJ9 {t : ByteArray} (h : t.size≤20000) : aZ5 t = (t ++ L5 (ah3 t),true):=if_pos h
theorem aD7 (x0 x1 x2 x3 x4 x5 x6 : Int) : aZ5 (frB x0 x1 x2 x3 x4 x5 x6) = (frB x0 x1 x2 x3 x4 x5 x6 ++ L5 (ah3 (frB x0 x1 x2 x3 x4 x5 x6)),true):=by
 have h1:=ae8 x2;have h2:=ae8 x6
 exact bJ9 (by rw [aw8];omega)
theorem ba6 (t : ByteArray) (h : t.size≤100000000) : Ev (fun k=>ad4.f k t) (aZ5 t):=by
 unfold ad4.f aZ5
 have hs:=aG4 t h
 have hi:=aW8 t
 by_cases h1 : t.size≤20000
 ·rw [if_pos h1]
  refine Ev.neg (by omega) (Ev.bind hs ?_)
  rw [m7 (x:=ah3 t) (by omega) (by omega)]
  exact Ev.bindc (au5 _) (Ev.pos (by rw [P4];omega) (Ev.now _))
 ·rw [if_neg h1]
  exact Ev.pos (by omega) (Ev.now _)
theorem bL3 {n : Int} (h : 0≤n∧n < 4294967296) (t : ByteArray) : S7 (t ++ L5 n) t.size = n:=by
 refine bd4 (bj8 _ _) h ?_
 rw [aM5 _ _ (by rw [ByteArray.size_append,P4];omega)]
 refine aq3 ?_
 rw [ah5,ag8,List.take_of_length_le (by rw [List.length_append,x7,x7,P4];omega),List.drop_append_of_le_length (by rw [x7];omega),List.drop_of_length_le (by rw [x7];omega),List.nil_append]
theorem bu2 {t u : ByteArray} : (t ++ u).extract 0 t.size = t:=by
 refine aq3 ?_
 rw [ah5,ag8,List.drop_zero,List.take_append_of_le_length (by rw [x7];omega),List.take_of_length_le (by rw [x7];omega)]
theorem bh6 {t : ByteArray} (h : t.size≤20000) : as3 (t ++ L5 (ah3 t)) = (t,true):=by
 have e : (t ++ L5 (ah3 t)).size - 4 = t.size:=by rw [ByteArray.size_append,P4];omega
 have:=bl1 (t:=t ++ L5 (ah3 t)) (by rw [ByteArray.size_append,P4];omega) (by rw [e,bu2,bL3 (aW8 t)])
 rw [this,e,bu2]
theorem bD3 (s : ByteArray) (e1 e2 : Nat) (m c : Int) (h1 : 2 < e1) (h2 : e1 + 9 < e2) (h3 : e2≤s.size) (v1 : N2 m = s.extract 2 e1) (v2 : N2 c = s.extract (e1 + 9) e2) :
 frB (bt s 0) (bt s 1) m (bt s (e1 : Int)) (S7 s (e1 + 1)) (S7 s (e1 + 5)) c = s.extract 0 e2:=by
 have t0 : strOfNums [bt s 0 % 256,bt s 1 % 256] = s.extract 0 2:=aI1 s 0 (by omega)
 have t1 : L5 (S7 s (e1 + 1)) = s.extract (e1 + 1) (e1 + 5):=aM5 s (e1 + 1) (by omega)
 have t2 : L5 (S7 s (e1 + 5)) = s.extract (e1 + 5) (e1 + 9):=aM5 s (e1 + 5) (by omega)
 unfold frB
 rw [t0,t1,t2,v1,v2,aQ5 s e1 (by omega)]
 rw [← ByteArray.extract_eq_extract_append_extract 2 (by omega) (by omega),← ByteArray.extract_eq_extract_append_extract e1 (by omega) (by omega),← ByteArray.extract_eq_extract_append_extract (e1 + 1) (by omega) (by omega),← ByteArray.extract_eq_extract_append_extract (e1 + 5) (by omega) (by omega),← ByteArray.extract_eq_extract_append_extract (e1 + 9) (by omega) (by omega)]
theorem ba0 (x y z : ByteArray) : ((x ++ y) ++ z).extract x.size (x.size + y.size) = y:=by
 refine aq3 ?_
 rw [ah5,ag8,ag8,List.take_append_of_le_length (by rw [List.length_append,x7,x7];omega),List.take_of_length_le (by rw [List.length_append,x7,x7];omega),List.drop_append_of_le_length (by rw [x7];omega),List.drop_of_length_le (by rw [x7];omega),List.nil_append]
theorem bn7 (x z : ByteArray) {n : Int} (h : 0≤n∧n < 4294967296) (i : Nat) (hi : i = x.size) : S7 ((x ++ L5 n) ++ z) i = n:=by
 subst hi
 refine bd4 (bj8 _ _) h ?_
 rw [aM5 _ _ (by simp only [ByteArray.size_append,P4];omega),← P4 n,ba0]
theorem bi7 (x z : ByteArray) {v : Int} (h : 0≤v∧v < 256) (i : Nat) (hi : i = x.size) : bt ((x ++ strOfNums [v]) ++ z) (i : Int) = v:=by
 subst hi
 have hb : s9 (strOfNums [v]) = [v]:=aA2 _ (fun y hy=>by rw [List.mem_singleton] at hy;omega)
 rw [an7 (by simp only [ByteArray.size_append,strOfNums_size,List.length_cons,List.length_nil];omega),ag8,ag8,hb,List.append_assoc,List.getD_eq_getElem?_getD,List.getElem?_append_right (by rw [x7];omega),x7,Nat.sub_self]
 rfl
theorem bE1 {x0 x1 x2 x3 x4 x5 x6 : Int} (h0 : 0≤x0∧x0 < 256) (h1 : 0≤x1∧x1 < 256) (h3 : 0≤x3∧x3 < 256) (h4 : 0≤x4∧x4 < 4294967296) (h5 : 0≤x5∧x5 < 4294967296) (s : ByteArray) (hs : s = frB x0 x1 x2 x3 x4 x5 x6) :
 bt s 0 = x0∧bt s 1 = x1∧N2 x2 = s.extract 2 (2 + (N2 x2).size)∧bt s ((2 + (N2 x2).size : Nat) : Int) = x3∧S7 s (2 + (N2 x2).size + 1) = x4∧S7 s (2 + (N2 x2).size + 5) = x5∧N2 x6 = s.extract (2 + (N2 x2).size + 9) s.size:=by
 have e0 : x0 % 256 = x0:=by omega
 have e1 : x1 % 256 = x1:=by omega
 have e3 : x3 % 256 = x3:=by omega
 have ea : strOfNums [x0,x1] = strOfNums [x0] ++ strOfNums [x1]:=aF5 [x0] [x1]
 have hz:=aw8 x0 x1 x2 x3 x4 x5 x6
 rw [← hs] at hz
 unfold frB at hs
 rw [e0,e1,e3] at hs
 refine ⟨?_,?_,?_,?_,?_,?_,?_⟩
 ·have:=bi7 ByteArray.empty (((((strOfNums [x1] ++ N2 x2) ++ strOfNums [x3]) ++ L5 x4) ++ L5 x5) ++ N2 x6) h0 0 rfl
  rw [ByteArray.empty_append] at this
  rw [hs,ea];simp only [ByteArray.append_assoc] at this ⊢;exact this
 ·have:=bi7 (strOfNums [x0]) ((((N2 x2 ++ strOfNums [x3]) ++ L5 x4) ++ L5 x5) ++ N2 x6) h1 1 (by rw [strOfNums_size];rfl)
  rw [hs,ea];simp only [ByteArray.append_assoc] at this ⊢;exact this
 ·have:=ba0 (strOfNums [x0,x1]) (N2 x2) (((strOfNums [x3] ++ L5 x4) ++ L5 x5) ++ N2 x6)
  rw [strOfNums_size,show [x0,x1].length = 2 from rfl] at this
  rw [hs];simp only [ByteArray.append_assoc] at this ⊢;exact this.symm
 ·have:=bi7 (strOfNums [x0,x1] ++ N2 x2) ((L5 x4 ++ L5 x5) ++ N2 x6) h3 (2 + (N2 x2).size) (by rw [ByteArray.size_append,strOfNums_size];rfl)
  rw [hs];simp only [ByteArray.append_assoc] at this ⊢;exact this
 ·have:=bn7 ((strOfNums [x0,x1] ++ N2 x2) ++ strOfNums [x3]) (L5 x5 ++ N2 x6) h4 (2 + (N2 x2).size + 1) (by simp only [ByteArray.size_append,strOfNums_size];rfl)
  rw [hs];simp only [ByteArray.append_assoc] at this ⊢;exact this
 ·have:=bn7 (((strOfNums [x0,x1] ++ N2 x2) ++ strOfNums [x3]) ++ L5 x4) (N2 x6) h5 (2 + (N2 x2).size + 5) (by simp only [ByteArray.size_append,strOfNums_size,P4];rfl)
  rw [hs];simp only [ByteArray.append_assoc] at this ⊢;exact this
 ·have:=ba0 ((((strOfNums [x0,x1] ++ N2 x2) ++ strOfNums [x3]) ++ L5 x4) ++ L5 x5) (N2 x6) ByteArray.empty
  rw [ByteArray.append_empty] at this
  have hx : ((((strOfNums [x0,x1] ++ N2 x2) ++ strOfNums [x3]) ++ L5 x4) ++ L5 x5).size = 2 + (N2 x2).size + 9:=by simp only [ByteArray.size_append,strOfNums_size,P4];rfl
  rw [hx,show 2 + (N2 x2).size + 9 + (N2 x6).size = s.size by omega] at this
  rw [← hs] at this
  exact this.symm
end Go.Proofs.YtahmbcgolnplgaaGreat.PFnNoHoles
