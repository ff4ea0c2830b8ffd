import Derived.Test.YtahmbcgolnplgaaGreatPFnNoHolesx9
import Derived.Test.YtahmbcgolnplgaaGreatLib
import Derived.Laws.BitsLemmas
import Derived.Laws.BytesArg
import Derived.Laws.Strings
set_option linter.unusedVariables false
set_option linter.unusedSimpArgs false
namespace Go.Proofs.YtahmbcgolnplgaaGreat.PFnNoHoles
open Go Go.RowKit Go.Proofs.YtahmbcgolnplgaaGreatA Go.Proofs.YtahmbcgolnplgaaGreatL
theorem G7 {α : Type} {l : List α} {i : Nat} {x : α} (h : l[i]? = some x) : i < l.length:=(List.getElem?_eq_some_iff.1 h).1
theorem Q4 (x lo hi : Int) : M4.f x lo hi = some (decide (lo≤x∧x≤hi)):=by
 unfold M4.f
 rw [aE3];congr 1;rw [Bool.eq_iff_iff]
 by_cases h : x ≥ lo <;> simp [h] <;> omega
theorem aL0 {l : List D9} {i : Nat} {x : D9} (h : l[i]? = some x) : K0 l (i : Int) = x:=by
 unfold K0;simpa using J8 l bK1 h
theorem bw5 {l : List B9} {i : Nat} {x : B9} (h : l[i]? = some x) : A4 l (i : Int) = x:=by
 unfold A4;simpa using J8 l bM1 h
theorem bO0 {l : List r7} {i : Nat} {x : r7} (h : l[i]? = some x) : ac1 l (i : Int) = x:=by
 unfold ac1;simpa using J8 l ah4 h
theorem by2 {l : List f9} {i : Nat} {x : f9} (h : l[i]? = some x) : m8 l (i : Int) = x:=by
 unfold m8;simpa using J8 l R6 h
theorem aV9 {α : Type} (p : α→Bool) : ∀ (xs : List α) (i : Nat),T8 (fun _ x=>p x) i xs = xs.all p
 | [],_=>rfl
 | x :: r,i=>by simp only [T8,List.all_cons,aV9 p r (i + 1)]
theorem aN4 {α : Type} (L : Nat→Int→Option Bool) (xs : List α) (p : α→Bool) (z : Bool)
 (stop : Ev (fun k=>L k (xs.length : Int)) z)
 (bad : ∀ (i : Nat) x,xs[i]? = some x→p x = false→Ev (fun k=>L k (i : Int)) false)
 (step : ∀ (i : Nat) x r,xs[i]? = some x→p x = true→Ev (fun k=>L k ((i : Int) + 1)) r→Ev (fun k=>L k (i : Int)) r) :
 Ev (fun k=>L k 0) (xs.all p && z):=by
 rw [← aV9 p xs 0];exact aL9 L xs (fun _ x=>p x) z stop bad step
def af9 {α ρ : Type} (p : α→Bool) (res : Nat→ρ) (z : ρ) : Nat→List α→ρ
 | _,[]=>z
 | i,x :: r=>if p x then res i else af9 p res z (i + 1) r
theorem aL7 {α ρ : Type} (L : Nat→Int→Option ρ) (xs : List α) (p : α→Bool) (res : Nat→ρ) (z : ρ)
 (stop : Ev (fun k=>L k (xs.length : Int)) z)
 (hit : ∀ (i : Nat) x,xs[i]? = some x→p x = true→Ev (fun k=>L k (i : Int)) (res i))
 (step : ∀ (i : Nat) x r,xs[i]? = some x→p x = false→Ev (fun k=>L k ((i : Int) + 1)) r→Ev (fun k=>L k (i : Int)) r) :
 Ev (fun k=>L k 0) (af9 p res z 0 xs):=by
 have key : ∀ (d i : Nat),xs.length - i = d→i≤xs.length→Ev (fun k=>L k (i : Int)) (af9 p res z i (xs.drop i)):=by
  intro d
  induction d with
  | zero=>
   intro i hd hi
   have : i = xs.length:=by omega
   subst this
   rw [List.drop_length]
   exact stop
  | succ d ih=>
   intro i hd hi
   have hlt : i < xs.length:=by omega
   have hx : xs[i]? = some xs[i]:=List.getElem?_eq_getElem hlt
   rw [List.drop_eq_getElem_cons hlt]
   simp only [af9]
   cases hp : p xs[i] with
   | true=>exact hit i _ hx hp
   | false=>exact step i _ _ hx hp (by have:=ih (i + 1) (by omega) (by omega);simpa using this)
 exact key _ 0 rfl (Nat.zero_le _)
theorem an4 {α ρ : Type} (p : α→Bool) (res : Nat→ρ) (z : ρ) : ∀ (xs : List α) (i : Nat),(xs.any p = true∧∃ j x,xs[j]? = some x∧p x = true∧(∀ y ∈ xs.take j,p y = false)∧af9 p res z i xs = res (i + j))∨((∀ y ∈ xs,p y = false)∧af9 p res z i xs = z)
 | [],i=>.inr ⟨fun y hy=>by simp at hy,rfl⟩
 | x :: r,i=>by
  simp only [af9]
  cases hp : p x with
  | true=>exact .inl ⟨by simp [hp],0,x,rfl,hp,fun y hy=>by simp at hy,rfl⟩
  | false=>
   rcases an4 p res z r (i + 1) with ⟨h1,j,y,h2,h3,h4,h5⟩ | ⟨h1,h2⟩
   ·refine .inl ⟨by simp only [List.any_cons,h1,Bool.or_true],j + 1,y,by simpa using h2,h3,fun u hu=>?_,by rw [show i + (j + 1) = i + 1 + j by omega];exact h5⟩
    rw [List.take_succ_cons] at hu
    rcases List.mem_cons.1 hu with rfl | hu
    ·exact hp
    ·exact h4 u hu
   ·refine .inr ⟨fun u hu=>?_,h2⟩
    rcases List.mem_cons.1 hu with rfl | hu
    ·exact hp
    ·exact h1 u hu
theorem bK3 {α : Type} {p : α→Bool} {xs : List α} (h : ∀ y ∈ xs,p y = false) : xs.any p = false:=by
 rw [List.any_eq_false]
 intro y hy;rw [h y hy];simp
theorem bG6 {α : Type} (p : α→Bool) (xs : List α) (i : Nat) : decide (af9 p (fun j=>(j : Int)) (-1) i xs ≥ 0) = xs.any p:=by
 rcases an4 p (fun j=>(j : Int)) (-1) xs i with ⟨h1,j,x,_,_,_,h5⟩ | ⟨h1,h2⟩
 ·rw [h1,h5];simp;omega
 ·rw [h2,bK3 h1];rfl
theorem aJ8 {l : List Int} {i : Nat} {x : Int} (h : l[i]? = some x) : rd l (i : Int) = x:=by unfold rd;exact J8 l 0 h
theorem bD8 {α : Type} {l : List α} {i : Nat} {x : α} (h : l[i]? = some x) : l.take i ++ [x] = l.take (i + 1):=by rw [List.take_add_one,h];rfl
theorem aB1 (a x : Bool) : (if a = true then some x else some false) = some (a && x):=by cases a <;> rfl
theorem O3 (s : ByteArray) (i : Int) : 0≤bt s i∧bt s i < 256:=by
 unfold bt
 split
 ·rename_i h;have:=(s[i.toNat]'h).toNat_lt;omega
 ·omega
theorem aj0 (a : Int) : P3.f a = some (decide (0≤a∧a≤4294967295)):=by
 unfold P3.f;rw [Q4];rfl
def ak4 (w : r7) : Bool:=decide (0≤w.f0∧w.f0≤4294967295) && decide (0≤w.f1∧w.f1≤4294967295)
theorem aY7 (w : r7) : W2.f w.f0 w.f1 = some (ak4 w):=by
 unfold W2.f ak4
 simp only [aj0,Option.bind_some,aB1]
def av3 (a n : Int) (m : Nat) : Bool:=decide (0≤a∧a≤4294967295) && (decide (0≤n∧n≤4294967295) && ((m : Int) == 3))
def X6 (a n : Int) (l : List r7) : Bool:=l.all ak4 && av3 a n l.length
def U7 (c : B9) : Bool:=decide (0≤c.f0∧c.f0≤2) && (ak4 c.f1 && (ak4 c.f3 && decide (1≤c.f2∧c.f2≤6)))
theorem ao6 (c : B9) : ad6.f c.f0 c.f1.f0 c.f1.f1 c.f2 c.f3.f0 c.f3.f1 = some (U7 c):=by
 unfold ad6.f U7
 simp only [Q4,aY7,Option.bind_some,aB1]
def an8 (a d : Int) : Bool:=decide (0≤a∧a≤5) && decide (0≤d∧d≤65535)
theorem aC5 (a d : Int) : V8.f a d = some (an8 a d):=by
 unfold V8.f an8
 simp only [Q4,Option.bind_some,aB1]
def ar5 (l : List Int) (i : Nat) (x : Int) : Bool:=decide (0≤x∧x≤4294967295) && (decide (i = 0) || decide (l.getD (i - 1) 0 < x))
def aw0 (n c : Nat) (a d : Int) : Bool:=decide (n≤4) && (decide (c≤3) && an8 a d)
def an2 (r : D9) : Bool:=T8 (ar5 r.f0) 0 r.f0 && (r.f1.all U7 && aw0 r.f0.length r.f1.length r.f2 r.f3)
def at6 (a c d : Int) (n : Nat) : Bool:=decide (0≤a∧a≤4294967295) && (an8 c d && decide (n≤10))
def ap5 (a c d : Int) (l : List D9) : Bool:=l.all an2 && at6 a c d l.length
def Sm (l : List D9) : Prop:=l.length≤5000∧∀ r ∈ l,r.f0.length≤5000∧r.f1.length≤5000
theorem Sm.get {l : List D9} (h : Sm l) {i : Nat} {r : D9} (hr : l[i]? = some r) : r.f0.length≤5000∧r.f1.length≤5000:=h.2 r (List.mem_of_getElem? hr)
theorem ax6 (r : D9) (hn : r.f0.length≤1048576) (hc : r.f1.length≤1048576) : Ev (fun k=>B1.f k r.f0 r.f1 r.f2 r.f3) (an2 r):=by
 unfold B1.f
 refine aL9 (fun k i=>B1.l0 k r.f0 r.f1 r.f2 r.f3 i) r.f0 (ar5 r.f0) _ ?_ ?_ ?_
 ·refine Ev.step (fun _=>rfl) ?_
  simp only [B1.l0]
  refine Ev.neg (by omega) (aN4 (fun k i=>B1.l1 k r.f0 r.f1 r.f2 r.f3 i) r.f1 U7 _ ?_ ?_ ?_)
  ·refine Ev.step (fun _=>rfl) ?_
   simp only [B1.l1]
   refine Ev.neg (by omega) (Ev.const ?_)
   rw [aC5]
   unfold aw0
   by_cases h1 : r.f0.length≤4
   ·rw [if_pos (by omega),decide_eq_true h1]
    by_cases h2 : r.f1.length≤3
    ·rw [if_pos (by omega),decide_eq_true h2];simp
    ·rw [if_neg (by omega),decide_eq_false h2];simp
   ·rw [if_neg (by omega),decide_eq_false h1];simp
  ·intro i x hx hp
   have hi:=G7 hx
   refine Ev.step (fun _=>rfl) ?_
   simp only [B1.l1]
   rw [bw5 hx]
   exact Ev.pos (by omega) (Ev.pos (by omega) (Ev.bindc (ao6 x) (Ev.neg (by rw [hp];simp) (Ev.now _))))
  ·intro i x q hx hp h
   have hi:=G7 hx
   refine Ev.step (fun _=>rfl) ?_
   simp only [B1.l1]
   rw [bw5 hx,m7 (x:=(i : Int) + 1) (by omega) (by omega)]
   exact Ev.pos (by omega) (Ev.pos (by omega) (Ev.bindc (ao6 x) (Ev.pos hp h)))
 ·intro i x hx hp
  have hi:=G7 hx
  refine Ev.step (fun _=>rfl) ?_
  simp only [B1.l0]
  rw [aJ8 hx]
  refine Ev.pos (by omega) (Ev.pos (by omega) (Ev.bindc (aj0 x) ?_))
  by_cases hh : 0≤x∧x≤4294967295
  ·unfold ar5 at hp
   rw [decide_eq_true hh,Bool.true_and,Bool.or_eq_false_iff] at hp
   have h0 : i≠0:=of_decide_eq_false hp.1
   have h1:=of_decide_eq_false hp.2
   rw [m7 (x:=(i : Int) - 1) (by omega) (by omega)]
   have e : rd r.f0 ((i : Int) - 1) = r.f0.getD (i - 1) 0:=by unfold rd;rw [show ((i : Int) - 1).toNat = i - 1 by omega]
   exact Ev.pos (decide_eq_true hh) (Ev.pos (by omega) (Ev.pos (by omega) (Ev.pos (by omega) (Ev.pos (by rw [e];omega) (Ev.now _)))))
  ·exact Ev.neg (by simpa using hh) (Ev.now _)
 ·intro i x q hx hp h
  have hi:=G7 hx
  refine Ev.step (fun _=>rfl) ?_
  simp only [B1.l0]
  rw [aJ8 hx,m7 (x:=(i : Int) + 1) (by omega) (by omega)]
  unfold ar5 at hp
  rw [Bool.and_eq_true] at hp
  have hh:=of_decide_eq_true hp.1
  refine Ev.pos (by omega) (Ev.pos (by omega) (Ev.bindc (aj0 x) (Ev.pos hp.1 ?_)))
  by_cases h0 : i = 0
  ·exact Ev.neg (by omega) h
  ·have h1 : r.f0.getD (i - 1) 0 < x:=by
    rcases Bool.or_eq_true ..▸hp.2 with h1 | h1
    ·exact absurd (of_decide_eq_true h1) h0
    ·exact of_decide_eq_true h1
   rw [m7 (x:=(i : Int) - 1) (by omega) (by omega)]
   have e : rd r.f0 ((i : Int) - 1) = r.f0.getD (i - 1) 0:=by unfold rd;rw [show ((i : Int) - 1).toNat = i - 1 by omega]
   exact Ev.pos (by omega) (Ev.pos (by omega) (Ev.pos (by omega) (Ev.neg (by rw [e];omega) h)))
theorem aw9 (a c d : Int) (l : List D9) (hl : Sm l) : Ev (fun k=>G2.f k a c d l) (ap5 a c d l):=by
 obtain ⟨hn,hr⟩:=hl
 unfold G2.f
 refine aN4 (fun k i=>G2.l0 k a c d l i) l an2 (at6 a c d l.length) ?_ ?_ ?_
 ·refine Ev.step (fun _=>rfl) ?_
  simp only [G2.l0]
  refine Ev.neg (by omega) (Ev.const ?_)
  unfold at6
  simp only [aj0,aC5,Option.bind_some,aB1]
  congr 3
  simp;omega
 ·intro i x hx hp
  have hi:=G7 hx
  have hb:=hr x (List.mem_of_getElem? hx)
  refine Ev.step (fun _=>rfl) ?_
  simp only [G2.l0]
  rw [aL0 hx]
  exact Ev.pos (by omega) (Ev.pos (by omega) (Ev.bind (ax6 x (by omega) (by omega)) (Ev.neg (by rw [hp];simp) (Ev.now _))))
 ·intro i x q hx hp h
  have hi:=G7 hx
  have hb:=hr x (List.mem_of_getElem? hx)
  refine Ev.step (fun _=>rfl) ?_
  simp only [G2.l0]
  rw [aL0 hx,m7 (x:=(i : Int) + 1) (by omega) (by omega)]
  exact Ev.pos (by omega) (Ev.pos (by omega) (Ev.bind (ax6 x (by omega) (by omega)) (Ev.pos hp h)))
theorem aQ6 : K3.f = G2.f:=by kernel_rfl
theorem aw4 (a c d : Int) (l : List D9) (hl : Sm l) : Ev (fun k=>K3.f k a c d l) (ap5 a c d l):=by
 rw [aQ6];exact aw9 a c d l hl
abbrev Sg:=C1
def aq0 (t : ByteArray) (lo hi : Int) : Nat→Nat→Nat
 | 0,i=>i
 | d + 1,i=>if lo≤bt t (i : Int)∧bt t (i : Int)≤hi then aq0 t lo hi d (i + 1) else i
def af0 (t : ByteArray) (lo hi : Int) (i : Nat) : Nat:=aq0 t lo hi (t.size - i) i
def aJ7 (t : ByteArray) : Nat→Nat→Int→Int
 | 0,_,v=>v
 | d + 1,i,v=>aJ7 t d (i + 1) (10 * v + (bt t (i : Int) - 48))
def U2 : List ByteArray:=[⟨#[61,61]⟩,⟨#[33,61]⟩,⟨#[60,61]⟩,⟨#[62,61]⟩,⟨#[60]⟩,⟨#[62]⟩,⟨#[38]⟩,⟨#[58]⟩,⟨#[59]⟩,⟨#[44]⟩]
def aB7 (t : ByteArray) (i : Nat) (m : ByteArray) : Bool:=decide (i + m.size≤t.size) && ((t.extract i (i + m.size)).toList == m.toList)
def ae1 (t : ByteArray) (i : Nat) : ByteArray:=af9 (aB7 t i) (fun j=>U2.getD j ByteArray.empty) ByteArray.empty 0 U2
def aC7 (t : ByteArray) : Nat→Nat→List Sg→List Sg×Bool
 | 0,_,_=>([],false)
 | d + 1,i,out=>
  if i < t.size then
   if bt t (i : Int) = 32∨bt t (i : Int) = 10 then aC7 t d (i + 1) out
   else if 97≤bt t (i : Int)∧bt t (i : Int)≤122 then
    (if af0 t 97 122 i - i > 12 then ([],false) else aC7 t d (af0 t 97 122 i) (out ++ [⟨1,t.extract i (af0 t 97 122 i),0⟩]))
   else if 48≤bt t (i : Int)∧bt t (i : Int)≤57 then
    (if af0 t 48 57 i - i > 10 then ([],false) else if aJ7 t (af0 t 48 57 i - i) i 0 > 4294967295 then ([],false) else aC7 t d (af0 t 48 57 i) (out ++ [⟨2,ByteArray.empty,aJ7 t (af0 t 48 57 i - i) i 0⟩]))
   else if ((ae1 t i).toList == ByteArray.empty.toList) = true then ([],false)
   else aC7 t d (i + (ae1 t i).size) (out ++ [⟨3,ae1 t i,0⟩])
  else (out,true)
def ab2 (t : ByteArray) : List Sg×Bool:=if t.size > 1200 then ([],false) else aC7 t (t.size + 1) 0 []
theorem aZ3 (t : ByteArray) (lo hi : Int) : ∀ (d i : Nat),i≤aq0 t lo hi d i∧aq0 t lo hi d i≤i + d
 | 0,i=>⟨Nat.le_refl _,Nat.le_refl _⟩
 | d + 1,i=>by
  unfold aq0
  have:=aZ3 t lo hi d (i + 1)
  split <;> omega
theorem aN1 {t : ByteArray} {lo hi : Int} {i : Nat} (hi' : i≤t.size) : i≤af0 t lo hi i∧af0 t lo hi i≤t.size:=by
 have:=aZ3 t lo hi (t.size - i) i
 unfold af0;omega
theorem aL3 {t : ByteArray} {lo hi : Int} {i : Nat} (hi' : i < t.size) (h : lo≤bt t (i : Int)∧bt t (i : Int)≤hi) : i < af0 t lo hi i:=by
 unfold af0
 obtain ⟨d,hd⟩ : ∃ d,t.size - i = d + 1:=⟨t.size - i - 1,by omega⟩
 have:=aZ3 t lo hi d (i + 1)
 rw [hd,aq0,if_pos h];omega
theorem bh0 (t : ByteArray) (lo hi : Int) : ∀ (d i j : Nat),i≤j→j < aq0 t lo hi d i→lo≤bt t (j : Int)∧bt t (j : Int)≤hi
 | 0,i,j,h1,h2=>by unfold aq0 at h2;omega
 | d + 1,i,j,h1,h2=>by
  unfold aq0 at h2
  split at h2
  ·rename_i h
   rcases Nat.eq_or_lt_of_le h1 with rfl | h3
   ·exact h
   ·exact bh0 t lo hi d (i + 1) j (by omega) h2
  ·omega
theorem bK5 (t : ByteArray) (i : Nat) : ae1 t i = ByteArray.empty∨(ae1 t i ∈ U2∧i + (ae1 t i).size≤t.size):=by
 unfold ae1
 rcases an4 (aB7 t i) (fun j=>U2.getD j ByteArray.empty) ByteArray.empty U2 0 with ⟨_,j,x,h2,h3,_,h5⟩ | ⟨_,h2⟩
 ·right
  have e : U2.getD (0 + j) ByteArray.empty = x:=by rw [Nat.zero_add,List.getD_eq_getElem?_getD,h2];rfl
  rw [h5,e]
  refine ⟨List.mem_of_getElem? h2,?_⟩
  unfold aB7 at h3
  rw [Bool.and_eq_true] at h3
  exact of_decide_eq_true h3.1
 ·exact .inl h2
theorem aE1 {m : ByteArray} (h : m ∈ U2) : 1≤m.size∧m.size≤2:=by
 have : ∀ x ∈ U2,1≤x.size∧x.size≤2:=by decide
 exact this m h
theorem bd2 {t : ByteArray} {i : Nat} (h : ¬ ((ae1 t i).toList == ByteArray.empty.toList) = true) : 1≤(ae1 t i).size∧i + (ae1 t i).size≤t.size:=by
 rcases bK5 t i with h1 | ⟨h1,h2⟩
 ·rw [h1] at h;exact absurd (by rw [beq_iff_eq]) h
 ·exact ⟨(aE1 h1).1,h2⟩
theorem au4 (t : ByteArray) : ∀ (d i : Nat) (out : List Sg),out.length≤i→i≤t.size→(aC7 t d i out).1.length≤t.size
 | 0,_,_,_,_=>Nat.zero_le _
 | d + 1,i,out,h,hi=>by
  unfold aC7
  split
  ·rename_i hlt
   split
   ·exact au4 t d (i + 1) out (by omega) (by omega)
   ·split
    ·rename_i hl
     have:=aN1 (t:=t) (lo:=97) (hi:=122) hi
     have:=aL3 hlt hl
     split
     ·exact Nat.zero_le _
     ·exact au4 t d _ _ (by simp;omega) (by omega)
    ·split
     ·rename_i hl
      have:=aN1 (t:=t) (lo:=48) (hi:=57) hi
      have:=aL3 hlt hl
      split
      ·exact Nat.zero_le _
      ·split
       ·exact Nat.zero_le _
       ·exact au4 t d _ _ (by simp;omega) (by omega)
     ·split
      ·exact Nat.zero_le _
      ·rename_i hm
       have:=bd2 hm
       exact au4 t d _ _ (by simp;omega) (by omega)
  ·show out.length≤_;omega
theorem aS0 (t : ByteArray) : (ab2 t).1.length≤1200:=by
 unfold ab2
 split
 ·exact Nat.zero_le _
 ·have:=au4 t (t.size + 1) 0 [] (Nat.le_refl _) (Nat.zero_le _)
  omega
theorem bs1 (x lo hi : Int) : (if x ≥ lo then some (decide (x≤hi)) else some false) = some (decide (lo≤x∧x≤hi)):=by
 by_cases h1 : x ≥ lo
 ·rw [if_pos h1];congr 1;rw [Bool.eq_iff_iff];simp;omega
 ·rw [if_neg h1];congr 1;rw [Bool.eq_iff_iff];simp;omega
theorem av0 (x : Int) : U9.f x = some (decide (97≤x∧x≤122)):=bs1 x 97 122
theorem au9 (x : Int) : U8.f x = some (decide (48≤x∧x≤57)):=bs1 x 48 57
theorem bh9 (t : ByteArray) (ht : t.size≤1200) (i : Nat) (hi : i≤t.size) : Ev (fun k=>F1.f k t (i : Int)) ((af0 t 97 122 i : Nat) : Int):=by
 unfold F1.f af0
 have key : ∀ (d j : Nat),t.size - j = d→j≤t.size→Ev (fun k=>F1.l0 k t (j : Int)) ((aq0 t 97 122 d j : Nat) : Int):=by
  intro d
  induction d with
  | zero=>
   intro j hd hj
   refine Ev.step (fun _=>rfl) ?_
   simp only [F1.l0]
   exact Ev.neg (by omega) (Ev.now _)
  | succ d ih=>
   intro j hd hj
   refine Ev.step (fun _=>rfl) ?_
   simp only [F1.l0]
   rw [m7 (x:=(j : Int) + 1) (by omega) (by omega),aq0]
   refine Ev.pos (by omega) (Ev.pos (by omega) (Ev.bindc (av0 _) ?_))
   by_cases h : 97≤bt t (j : Int)∧bt t (j : Int)≤122
   ·rw [if_pos h];exact Ev.pos (decide_eq_true h) (ih (j + 1) (by omega) (by omega))
   ·rw [if_neg h];exact Ev.neg (by simpa using h) (Ev.now _)
 exact key _ i rfl hi
theorem bl0 (t : ByteArray) (ht : t.size≤1200) (i : Nat) (hi : i≤t.size) : Ev (fun k=>F6.f k t (i : Int)) ((af0 t 48 57 i : Nat) : Int):=by
 unfold F6.f af0
 have key : ∀ (d j : Nat),t.size - j = d→j≤t.size→Ev (fun k=>F6.l0 k t (j : Int)) ((aq0 t 48 57 d j : Nat) : Int):=by
  intro d
  induction d with
  | zero=>
   intro j hd hj
   refine Ev.step (fun _=>rfl) ?_
   simp only [F6.l0]
   exact Ev.neg (by omega) (Ev.now _)
  | succ d ih=>
   intro j hd hj
   refine Ev.step (fun _=>rfl) ?_
   simp only [F6.l0]
   rw [m7 (x:=(j : Int) + 1) (by omega) (by omega),aq0]
   refine Ev.pos (by omega) (Ev.pos (by omega) (Ev.bindc (au9 _) ?_))
   by_cases h : 48≤bt t (j : Int)∧bt t (j : Int)≤57
   ·rw [if_pos h];exact Ev.pos (decide_eq_true h) (ih (j + 1) (by omega) (by omega))
   ·rw [if_neg h];exact Ev.neg (by simpa using h) (Ev.now _)
 exact key _ i rfl hi
theorem ao1 {j : Nat} {m : ByteArray} (h : U2[j]? = some m) : M0 ByteArray.empty U2 (j : Int) = m∧U2.getD j ByteArray.empty = m:=⟨J8 U2 ByteArray.empty h,by rw [List.getD_eq_getElem?_getD,h];rfl⟩
theorem aZ8 (t : ByteArray) (ht : t.size≤1200) (i : Nat) (hi : i≤t.size) : Ev (fun k=>J7.f k t (i : Int)) (ae1 t i):=by
 unfold J7.f ae1
 refine aL7 (fun k j=>J7.l0 k t (i : Int) j) U2 (aB7 t i) (fun j=>U2.getD j ByteArray.empty) ByteArray.empty ?_ ?_ ?_
 ·refine Ev.step (fun _=>rfl) ?_
  simp only [J7.l0]
  exact Ev.neg (by decide) (Ev.now _)
 ·intro j m hm hp
  have hj:=G7 hm
  have hz:=aE1 (List.mem_of_getElem? hm)
  obtain ⟨e1,e2⟩:=ao1 hm
  unfold aB7 at hp
  rw [Bool.and_eq_true,decide_eq_true_eq] at hp
  refine Ev.step (fun _=>rfl) ?_
  simp only [J7.l0]
  change Ev (fun k=>if (j : Int) < (U2.length : Int) then _ else _) _
  rw [show ([⟨#[61,61]⟩,⟨#[33,61]⟩,⟨#[60,61]⟩,⟨#[62,61]⟩,⟨#[60]⟩,⟨#[62]⟩,⟨#[38]⟩,⟨#[58]⟩,⟨#[59]⟩,⟨#[44]⟩] : List ByteArray) = U2 from rfl,e1,e2,m7 (x:=(t.size : Int) - (i : Int)) (by omega) (by omega),m7 (x:=(i : Int) + (m.size : Int)) (by omega) (by omega),show (i : Int) + (m.size : Int) = ((i + m.size : Nat) : Int) by omega,Int.toNat_natCast,Int.toNat_natCast]
  exact Ev.pos (by omega) (Ev.pos (by omega) (Ev.pos (by omega) (Ev.pos (by omega) (Ev.pos (by omega) (Ev.pos (by omega) (Ev.pos hp.2 (Ev.now _)))))))
 ·intro j m r hm hp hr
  have hj:=G7 hm
  have hl : U2.length = 10:=rfl
  have hz:=aE1 (List.mem_of_getElem? hm)
  obtain ⟨e1,e2⟩:=ao1 hm
  unfold aB7 at hp
  refine Ev.step (fun _=>rfl) ?_
  simp only [J7.l0]
  change Ev (fun k=>if (j : Int) < (U2.length : Int) then _ else _) _
  rw [show ([⟨#[61,61]⟩,⟨#[33,61]⟩,⟨#[60,61]⟩,⟨#[62,61]⟩,⟨#[60]⟩,⟨#[62]⟩,⟨#[38]⟩,⟨#[58]⟩,⟨#[59]⟩,⟨#[44]⟩] : List ByteArray) = U2 from rfl,e1,m7 (x:=(t.size : Int) - (i : Int)) (by omega) (by omega),m7 (x:=(i : Int) + (m.size : Int)) (by omega) (by omega),m7 (x:=(j : Int) + 1) (by omega) (by omega),show (i : Int) + (m.size : Int) = ((i + m.size : Nat) : Int) by omega,Int.toNat_natCast,Int.toNat_natCast]
  refine Ev.pos (by omega) (Ev.pos (by omega) ?_)
  by_cases h1 : i + m.size≤t.size
  ·rw [decide_eq_true h1,Bool.true_and] at hp
   exact Ev.pos (by omega) (Ev.pos (by omega) (Ev.pos (by omega) (Ev.pos (by omega) (Ev.neg (by rw [hp];simp) hr))))
  ·exact Ev.neg (by omega) hr
theorem bq7 (t : ByteArray) (ht : t.size≤1200) (out : List Sg) (i e : Nat) (he : e≤t.size) (hie : e - i≤10) (hi : i≤e) (hb : ∀ j,i≤j→j < e→48≤bt t (j : Int)∧bt t (j : Int)≤57) (r : List Sg×Bool)
 (h : Ev (fun k=>o7.j1 k t out (i : Int) (e : Int) (aJ7 t (e - i) i 0)) r) : Ev (fun k=>o7.l0 k t out (i : Int) (e : Int) 0 (i : Int)) r:=by
 have key : ∀ (d j : Nat) (v : Int),e - j = d→i≤j→j≤e→0≤v→v < 10 ^ (j - i)→aJ7 t d j v = aJ7 t (e - i) i 0→Ev (fun k=>o7.l0 k t out (i : Int) (e : Int) v (j : Int)) r:=by
  intro d
  induction d with
  | zero=>
   intro j v hd hij hj h0 h1 hn
   refine Ev.step (fun _=>rfl) ?_
   simp only [o7.l0]
   rw [show v = aJ7 t (e - i) i 0 from hn]
   exact Ev.neg (by omega) h
  | succ d ih=>
   intro j v hd hij hj h0 h1 hn
   have hj':=hb j hij (by omega)
   have hp : (10 : Int) ^ (j - i)≤1000000000:=by
    have : ∀ m : Nat,m < 10→(10 : Int) ^ m≤1000000000:=by decide
    exact this _ (by omega)
   refine Ev.step (fun _=>rfl) ?_
   simp only [o7.l0]
   rw [m7 (x:=(e : Int) - (i : Int)) (by omega) (by omega),m7 (x:=10 * v) (by omega) (by omega),IntKind.wrap_u8,show (bt t (j : Int) - 48) % 256 = bt t (j : Int) - 48 by omega,m7 (x:=bt t (j : Int) - 48) (by omega) (by omega),m7 (x:=10 * v + (bt t (j : Int) - 48)) (by omega) (by omega),m7 (x:=(j : Int) + 1) (by omega) (by omega)]
   refine Ev.pos (by omega) (Ev.pos (by omega) (Ev.pos (by omega) (Ev.pos (by omega) ?_)))
   refine ih (j + 1) _ (by omega) (by omega) (by omega) (by omega) ?_ hn
   rw [show j + 1 - i = (j - i) + 1 by omega,Int.pow_succ];omega
 exact key (e - i) i 0 rfl (Nat.le_refl _) hi (by omega) (by rw [Nat.sub_self];decide) rfl
theorem br4 (t : ByteArray) (ht : t.size≤1200) (out : List Sg) (i e : Nat) (he : e≤t.size) (hie : e - i > 10) : Ev (fun k=>o7.l0 k t out (i : Int) (e : Int) 0 (i : Int)) ([],false):=by
 refine Ev.step (fun _=>rfl) ?_
 simp only [o7.l0]
 rw [m7 (x:=(e : Int) - (i : Int)) (by omega) (by omega)]
 refine Ev.pos (by omega) (Ev.neg (by omega) (Ev.step (fun _=>rfl) ?_))
 simp only [o7.j1]
 rw [m7 (x:=(e : Int) - (i : Int)) (by omega) (by omega)]
 exact Ev.pos (by omega) (Ev.now _)
theorem bq8 (t : ByteArray) (ht : t.size≤1200) : ∀ (d i : Nat) (out : List Sg),t.size - i < d→i≤t.size→out.length≤i→Ev (fun k=>o7.l1 k t out (i : Int)) (aC7 t d i out):=by
 intro d
 induction d with
 | zero=>intro i out h;omega
 | succ d ih=>
  intro i out hd hi ho
  refine Ev.step (fun _=>rfl) ?_
  simp only [o7.l1]
  rw [aC7]
  by_cases hlt : i < t.size
  ·rw [if_pos hlt]
   refine Ev.pos (by omega) (Ev.pos (by omega) ?_)
   have e1 : ∀ _ : Unit,wrap64 ((i : Int) + 1) = ((i + 1 : Nat) : Int):=fun _=>by rw [m7 (by omega) (by omega)];omega
   by_cases h32 : bt t (i : Int) = 32
   ·rw [if_pos (.inl h32)]
    refine Ev.pos h32 (Ev.step (fun _=>rfl) ?_)
    simp only [o7.j0]
    rw [e1 ()]
    exact Ev.pos (by trivial) (ih (i + 1) out (by omega) (by omega) (by omega))
   refine Ev.neg h32 (Ev.step (fun _=>rfl) ?_)
   simp only [o7.j0]
   rw [e1 ()]
   by_cases h10 : bt t (i : Int) = 10
   ·rw [if_pos (.inr h10)]
    exact Ev.pos (by rw [h10];rfl) (ih (i + 1) out (by omega) (by omega) (by omega))
   rw [if_neg (fun h=>h.elim h32 h10)]
   refine Ev.neg (by simpa using h10) (Ev.pos (by omega) (Ev.bindc (av0 _) ?_))
   by_cases hl : 97≤bt t (i : Int)∧bt t (i : Int)≤122
   ·rw [if_pos hl]
    have hr:=aN1 (t:=t) (lo:=97) (hi:=122) hi
    have hg:=aL3 hlt hl
    have he:=bh9 t ht i hi
    generalize af0 t 97 122 i = e at hr hg he ⊢
    refine Ev.pos (decide_eq_true hl) (Ev.bind he ?_)
    rw [m7 (x:=(e : Int) - (i : Int)) (by omega) (by omega)]
    by_cases h12 : e - i > 12
    ·rw [if_pos h12];exact Ev.pos (by omega) (Ev.now _)
    ·rw [if_neg h12]
     refine Ev.neg (by omega) (Ev.pos (by omega) (Ev.pos (by omega) (Ev.pos (by simp;omega) ?_)))
     rw [Int.toNat_natCast,Int.toNat_natCast]
     exact ih e _ (by omega) (by omega) (by simp;omega)
   rw [if_neg hl]
   refine Ev.neg (by simpa using hl) (Ev.bindc (au9 _) ?_)
   by_cases hf : 48≤bt t (i : Int)∧bt t (i : Int)≤57
   ·rw [if_pos hf]
    have hr:=aN1 (t:=t) (lo:=48) (hi:=57) hi
    have hg:=aL3 hlt hf
    have he:=bl0 t ht i hi
    have hall : ∀ j,i≤j→j < af0 t 48 57 i→48≤bt t (j : Int)∧bt t (j : Int)≤57:=fun j=>bh0 t 48 57 _ i j
    generalize af0 t 48 57 i = e at hr hg he hall ⊢
    refine Ev.pos (decide_eq_true hf) (Ev.bind he ?_)
    by_cases h10 : e - i > 10
    ·rw [if_pos h10];exact br4 t ht out i e (by omega) h10
    ·rw [if_neg h10]
     refine bq7 t ht out i e (by omega) (by omega) (by omega) hall _ (Ev.step (fun _=>rfl) ?_)
     simp only [o7.j1]
     rw [m7 (x:=(e : Int) - (i : Int)) (by omega) (by omega)]
     refine Ev.neg (by omega) ?_
     by_cases hm : aJ7 t (e - i) i 0 > 4294967295
     ·rw [if_pos hm];exact Ev.pos hm (Ev.now _)
     ·rw [if_neg hm]
      exact Ev.neg hm (Ev.pos (by simp;omega) (ih e _ (by omega) (by omega) (by simp;omega)))
   rw [if_neg hf]
   refine Ev.neg (by simpa using hf) (Ev.bind (aZ8 t ht i hi) ?_)
   by_cases hm : ((ae1 t i).toList == ByteArray.empty.toList) = true
   ·rw [if_pos hm];exact Ev.pos hm (Ev.now _)
   ·rw [if_neg hm]
    have hz:=bd2 hm
    refine Ev.neg hm (Ev.pos (by simp;omega) ?_)
    rw [m7 (x:=(i : Int) + ((ae1 t i).size : Int)) (by omega) (by omega),show (i : Int) + ((ae1 t i).size : Int) = ((i + (ae1 t i).size : Nat) : Int) by omega]
    exact ih _ _ (by omega) (by omega) (by simp;omega)
  ·rw [if_neg hlt]
   exact Ev.neg (by omega) (Ev.now _)
theorem aT8 (t : ByteArray) : Ev (fun k=>o7.f k t) (ab2 t):=by
 unfold o7.f ab2
 by_cases h : t.size > 1200
 ·rw [if_pos h];exact Ev.pos (by omega) (Ev.now _)
 ·rw [if_neg h];exact Ev.neg (by omega) (bq8 t (by omega) _ 0 [] (by omega) (Nat.zero_le _) (Nat.le_refl _))
abbrev Rr:=Nat×Bool
def ap7 (l : List Sg) (i : Nat) : Sg:=l.getD i bM9
theorem bj4 (l : List Sg) (i : Nat) : am2 l (i : Int) = ap7 l i:=by unfold am2 ap7;rw [Int.toNat_natCast]
def aK8 (l : List Sg) (r : Rr) (t : ByteArray) : Bool:=decide (r.1 < l.length) && (!((ap7 l r.1).f0 == 2) && ((ap7 l r.1).f1.toList == t.toList))
def E4 (l : List Sg) (r : Rr) (t : ByteArray) : Bool×Rr:=if (!r.2 && aK8 l r t) = true then (true,(r.1 + 1,r.2)) else (false,r)
def B7 (l : List Sg) (r : Rr) (t : ByteArray) : Rr:=if (E4 l r t).1 = true then (E4 l r t).2 else ((E4 l r t).2.1,true)
def ak1 (l : List Sg) (r : Rr) : Bool:=!r.2 && (decide (r.1 < l.length) && ((ap7 l r.1).f0 == 2))
def P7 (l : List Sg) (r : Rr) : Int×Rr:=if ak1 l r = true then ((ap7 l r.1).f2,(r.1 + 1,r.2)) else (0,(r.1,true))
def bw2 (names : List ByteArray) (a : ByteArray) : Int:=af9 (fun m=>a.toList == m.toList) (fun j=>(j : Int)) (-1) 0 names
def ai9 (l : List Sg) (r : Rr) (names : List ByteArray) : Int×Rr:=if (r.2 || (decide (l.length≤r.1) || !((ap7 l r.1).f0 == 1))) = true then (-1,(r.1,true)) else (bw2 names (ap7 l r.1).f1,(r.1 + 1,decide (bw2 names (ap7 l r.1).f1 < 0)))
def am7 : List ByteArray:=[⟨#[107,105,108,108]⟩,⟨#[116,114,97,112]⟩,⟨#[101,114,114]⟩,⟨#[116,114,97,99,101]⟩,⟨#[108,111,103]⟩,⟨#[97,108,108,111,119]⟩]
def aS1 : List ByteArray:=[⟨#[114,101,97,100]⟩,⟨#[119,114,105,116,101]⟩,⟨#[111,112,101,110]⟩,⟨#[99,108,111,115,101]⟩,⟨#[115,116,97,116]⟩,⟨#[109,109,97,112]⟩,⟨#[101,120,101,99]⟩,⟨#[102,111,114,107]⟩,⟨#[107,105,108,108]⟩,⟨#[115,101,110,100]⟩,⟨#[114,101,99,118]⟩,⟨#[101,120,105,116]⟩]
def L3 : List ByteArray:=[⟨#[61,61]⟩,⟨#[33,61]⟩,⟨#[60]⟩,⟨#[60,61]⟩,⟨#[62]⟩,⟨#[62,61]⟩]
def an9 (l : List Sg) (r : Rr) : Int×Int×Rr:=if ak1 l (ai9 l r am7).2 = true then ((ai9 l r am7).1,P7 l (ai9 l r am7).2) else ((ai9 l r am7).1,0,(ai9 l r am7).2)
def ac5 (l : List Sg) (r : Rr) : Int×Rr:=if ak1 l r = true then P7 l r else ai9 l r aS1
def V1 (l : List Sg) (r : Rr) : Int×Int×Rr:=if (E4 l (P7 l r).2 ⟨#[58]⟩).1 = true then ((P7 l r).1,P7 l (E4 l (P7 l r).2 ⟨#[58]⟩).2) else (0,(P7 l r).1,(E4 l (P7 l r).2 ⟨#[58]⟩).2)
def T0 (l : List Sg) : Nat→List ByteArray→Int→Rr→Int×Rr
 | _,[],c,r=>(c,r)
 | i,m :: ms,c,r=>if c = 0∧(E4 l r m).1 = true then T0 l (i + 1) ms ((i : Int) + 1) (E4 l r m).2 else if c = 0 then T0 l (i + 1) ms c (E4 l r m).2 else T0 l (i + 1) ms c r
theorem bM4 (l : List Sg) (i : Nat) (m : ByteArray) (ms : List ByteArray) (c : Int) (r : Rr) : T0 l i (m :: ms) c r = if c = 0∧(E4 l r m).1 = true then T0 l (i + 1) ms ((i : Int) + 1) (E4 l r m).2 else if c = 0 then T0 l (i + 1) ms c (E4 l r m).2 else T0 l (i + 1) ms c r:=rfl
def ay4 (l : List Sg) (r : Rr) : Int×Int×Rr:=if (E4 l r ⟨#[38]⟩).1 = true then V1 l (E4 l r ⟨#[38]⟩).2 else (4294967295,4294967295,(E4 l r ⟨#[38]⟩).2)
def aj4 (c : Int) (r : Rr) : Rr:=if c = 0 then (r.1,true) else r
def aa5 (l : List Sg) (r : Rr) : B9×Rr:=
 let a:=P7 l (B7 l r ⟨#[97,114,103]⟩)
 let m:=ay4 l a.2
 let c:=T0 l 0 L3 0 m.2.2
 let v:=V1 l (aj4 c.1 c.2)
 (⟨a.1,⟨m.1,m.2.1⟩,c.1,⟨v.1,v.2.1⟩⟩,v.2.2)
section
variable (l : List Sg) (hl : l.length≤1200)
def Go' (r r' : Rr) : Prop:=r.1≤r'.1∧(r.1≤l.length→r'.1≤l.length)∧(r.2 = true→r'.2 = true)
theorem Go'.refl (r : Rr) : Go' l r r:=⟨Nat.le_refl _,id,id⟩
theorem Go'.trans {r r' r'' : Rr} (h : Go' l r r') (h' : Go' l r' r'') : Go' l r r'':=⟨Nat.le_trans h.1 h'.1,fun x=>h'.2.1 (h.2.1 x),fun x=>h'.2.2 (h.2.2 x)⟩
theorem N0 (r : Rr) (t : ByteArray) : Go' l r (E4 l r t).2:=by
 unfold E4
 split
 ·rename_i h
  unfold aK8 at h
  simp only [Bool.and_eq_true,decide_eq_true_eq] at h
  exact ⟨Nat.le_succ _,fun _=>h.2.1,id⟩
 ·exact Go'.refl l r
theorem aR2 {r : Rr} {t : ByteArray} (h : (E4 l r t).1 = true) : (E4 l r t).2 = (r.1 + 1,false)∧r.1 < l.length∧r.2 = false:=by
 unfold E4 at h ⊢
 split at h
 ·rename_i h1
  rw [if_pos h1]
  unfold aK8 at h1
  simp only [Bool.and_eq_true,decide_eq_true_eq,Bool.not_eq_true'] at h1
  exact ⟨by rw [h1.1],h1.2.1,h1.1⟩
 ·cases h
theorem ab1 (r : Rr) (t : ByteArray) : Go' l r (B7 l r t):=by
 unfold B7
 split
 ·exact N0 l r t
 ·exact ⟨(N0 l r t).1,(N0 l r t).2.1,fun _=>rfl⟩
theorem bJ5 {r : Rr} {t : ByteArray} (h : (B7 l r t).2 = false) : r.1 < (B7 l r t).1:=by
 unfold B7 at h ⊢
 split at h
 ·rename_i h1
  rw [if_pos h1,(aR2 l h1).1]
  exact Nat.lt_succ_self _
 ·cases h
theorem ai8 (r : Rr) : Go' l r (P7 l r).2:=by
 unfold P7
 split
 ·rename_i h
  unfold ak1 at h
  simp only [Bool.and_eq_true,decide_eq_true_eq] at h
  exact ⟨Nat.le_succ _,fun _=>h.2.1,id⟩
 ·exact ⟨Nat.le_refl _,id,fun _=>rfl⟩
theorem aF3 (r : Rr) (names : List ByteArray) : Go' l r (ai9 l r names).2:=by
 unfold ai9
 split
 ·exact ⟨Nat.le_refl _,id,fun _=>rfl⟩
 ·rename_i h
  simp only [Bool.or_eq_true,decide_eq_true_eq,not_or,Bool.not_eq_true] at h
  exact ⟨Nat.le_succ _,fun _=>by show r.1 + 1≤_;omega,fun x=>by rw [h.1] at x;cases x⟩
theorem aZ9 (r : Rr) : Go' l r (an9 l r).2.2:=by
 unfold an9
 split
 ·exact (aF3 l r am7).trans l (ai8 l _)
 ·exact aF3 l r am7
theorem aD2 (r : Rr) : Go' l r (ac5 l r).2:=by
 unfold ac5
 split
 ·exact ai8 l r
 ·exact aF3 l r aS1
theorem aP7 (r : Rr) : Go' l r (V1 l r).2.2:=by
 unfold V1
 split
 ·exact ((ai8 l r).trans l (N0 l _ _)).trans l (ai8 l _)
 ·exact (ai8 l r).trans l (N0 l _ _)
theorem bK7 (r : Rr) : Go' l r (ay4 l r).2.2:=by
 unfold ay4
 split
 ·exact (N0 l r _).trans l (aP7 l _)
 ·exact N0 l r _
theorem aT9 : ∀ (ms : List ByteArray) (i : Nat) (c : Int) (r : Rr),Go' l r (T0 l i ms c r).2
 | [],_,_,r=>Go'.refl l r
 | m :: ms,i,c,r=>by
  unfold T0
  split
  ·exact (N0 l r m).trans l (aT9 ms _ _ _)
  ·split
   ·exact (N0 l r m).trans l (aT9 ms _ _ _)
   ·exact aT9 ms _ _ _
theorem aE6 (r : Rr) : Go' l r (aa5 l r).2:=by
 unfold aa5
 have h1:=((ab1 l r ⟨#[97,114,103]⟩).trans l (ai8 l _)).trans l (bK7 l _)
 have h2:=h1.trans l (aT9 l L3 0 0 _)
 refine Go'.trans l ?_ (aP7 l _)
 unfold aj4
 split
 ·exact ⟨h2.1,h2.2.1,fun _=>rfl⟩
 ·exact h2
include hl
set_option linter.unusedSectionVars false
theorem bl3 (r : Rr) (t : ByteArray) : S3.f l (r.1 : Int) r.2 t = some (aK8 l r t,l,(r.1 : Int),r.2):=by
 unfold S3.f aK8
 rw [bj4]
 by_cases h : r.1 < l.length
 ·rw [if_pos (by omega),if_pos (by omega),decide_eq_true h,Bool.true_and]
  by_cases h2 : (ap7 l r.1).f0 = 2
  ·rw [if_pos h2,h2];rfl
  ·rw [if_neg h2,show ((ap7 l r.1).f0 == 2) = false from beq_eq_false_iff_ne.2 h2];rfl
 ·rw [if_neg (by omega),decide_eq_false h];rfl
theorem aa6 (r : Rr) (hr : r.1≤l.length) (t : ByteArray) : A7.f l (r.1 : Int) r.2 t = some ((E4 l r t).1,l,((E4 l r t).2.1 : Int),(E4 l r t).2.2):=by
 unfold A7.f E4
 obtain ⟨a,b⟩:=r
 dsimp only at hr ⊢
 cases b with
 | true=>rfl
 | false=>
  rw [if_neg (by simp),bl3 l hl (a,false) t]
  simp only [Option.bind_some,Bool.not_false,Bool.true_and]
  cases hs : aK8 l (a,false) t with
  | true=>rw [if_pos rfl,if_pos rfl,m7 (by omega) (by omega)];rfl
  | false=>rfl
theorem W4 (r : Rr) (hr : r.1≤l.length) (t : ByteArray) : y6.f l (r.1 : Int) r.2 t = some (l,((B7 l r t).1 : Int),(B7 l r t).2):=by
 unfold y6.f B7
 rw [aa6 l hl r hr t]
 simp only [Option.bind_some]
 cases hs : (E4 l r t).1 with
 | true=>rfl
 | false=>rfl
theorem ar9 (r : Rr) : J1.f l (r.1 : Int) r.2 = some (ak1 l r,l,(r.1 : Int),r.2):=by
 unfold J1.f ak1
 obtain ⟨a,b⟩:=r
 rw [bj4]
 cases b with
 | true=>rfl
 | false=>
  dsimp only
  rw [if_neg (by simp)]
  by_cases h : a < l.length
  ·rw [if_pos (by omega),if_pos (by omega),decide_eq_true h];rfl
  ·rw [if_neg (by omega),decide_eq_false h];rfl
theorem ag7 (r : Rr) (hr : r.1≤l.length) : D2.f l (r.1 : Int) r.2 = some ((P7 l r).1,l,((P7 l r).2.1 : Int),(P7 l r).2.2):=by
 unfold D2.f P7
 rw [ar9 l hl r]
 simp only [Option.bind_some]
 cases hs : ak1 l r with
 | false=>rfl
 | true=>
  unfold ak1 at hs
  simp only [Bool.and_eq_true,decide_eq_true_eq] at hs
  rw [if_pos rfl,if_pos rfl,m7 (x:=(r.1 : Int) + 1) (by omega) (by omega),m7 (x:=(r.1 : Int) + 1 - 1) (by omega) (by omega),show (r.1 : Int) + 1 - 1 = (r.1 : Int) by omega,if_pos (by omega),if_pos (by omega),bj4]
  rfl
omit hl in
theorem bf3 (names : List ByteArray) (hn : names.length≤100) (a : ByteArray) : Ev (fun k=>u4.f k names a) (bw2 names a):=by
 unfold u4.f bw2
 refine aL7 (fun k j=>u4.l0 k names a j) names (fun m=>a.toList == m.toList) (fun j=>(j : Int)) (-1) ?_ ?_ ?_
 ·refine Ev.step (fun _=>rfl) ?_
  simp only [u4.l0]
  exact Ev.neg (by omega) (Ev.now _)
 ·intro j m hm hp
  have hj:=G7 hm
  refine Ev.step (fun _=>rfl) ?_
  simp only [u4.l0]
  rw [show M0 ByteArray.empty names (j : Int) = m from J8 names ByteArray.empty hm]
  exact Ev.pos (by omega) (Ev.pos (by omega) (Ev.pos hp (Ev.now _)))
 ·intro j m r hm hp hr
  have hj:=G7 hm
  refine Ev.step (fun _=>rfl) ?_
  simp only [u4.l0]
  rw [show M0 ByteArray.empty names (j : Int) = m from J8 names ByteArray.empty hm,m7 (x:=(j : Int) + 1) (by omega) (by omega)]
  exact Ev.pos (by omega) (Ev.pos (by omega) (Ev.neg (by rw [hp];simp) hr))
theorem aI9 (names : List ByteArray) (hn : names.length≤100) (r : Rr) (hr : r.1≤l.length) : Ev (fun k=>C0.f k l (r.1 : Int) r.2 names) ((ai9 l r names).1,l,((ai9 l r names).2.1 : Int),(ai9 l r names).2.2):=by
 unfold C0.f ai9
 obtain ⟨a,b⟩:=r
 dsimp only at hr ⊢
 have no : Ev (fun k=>C0.j0 k l (a : Int) b names true) (-1,l,(a : Int),true):=by
  refine Ev.step (fun _=>rfl) ?_
  simp only [C0.j0]
  exact Ev.pos (by trivial) (Ev.now _)
 cases b with
 | true=>exact Ev.pos (by trivial) no
 | false=>
  refine Ev.neg (by simp) ?_
  rw [bj4]
  by_cases h : l.length≤a
  ·rw [if_pos (by simp [h])];exact Ev.pos (by omega) no
  ·refine Ev.neg (by omega) (Ev.pos (by omega) (Ev.pos (by omega) ?_))
   by_cases h1 : (ap7 l a).f0 = 1
   ·rw [if_neg (by simp [h,h1]),h1]
    refine Ev.step (fun _=>rfl) ?_
    simp only [C0.j0]
    rw [m7 (x:=(a : Int) + 1) (by omega) (by omega),m7 (x:=(a : Int) + 1 - 1) (by omega) (by omega),show (a : Int) + 1 - 1 = (a : Int) by omega,bj4]
    exact Ev.neg (by simp) (Ev.pos (by omega) (Ev.pos (by omega) (Ev.bind (bf3 names hn _) (Ev.now _))))
   ·rw [if_pos (by simp [h1]),show ((ap7 l a).f0 != 1) = true from bne_iff_ne.2 h1]
    exact no
omit hl in
theorem aW5 : Ev (fun k=>K5.f k) am7:=⟨10,fun k hk=>by
 obtain ⟨m,rfl⟩ : ∃ m,k = m + 10:=⟨k - 10,by omega⟩
 kernel_rfl⟩
theorem aC4 (r : Rr) (hr : r.1≤l.length) : Ev (fun k=>M3.f k l (r.1 : Int) r.2) ((an9 l r).1,(an9 l r).2.1,l,((an9 l r).2.2.1 : Int),(an9 l r).2.2.2):=by
 unfold M3.f an9
 have hg:=(aF3 l r am7).2.1 hr
 refine Ev.bind aW5 (Ev.bind (aI9 l hl am7 (by decide) r hr) (Ev.bindc (ar9 l hl _) ?_))
 cases hs : ak1 l (ai9 l r am7).2 with
 | true=>exact Ev.pos (by trivial) (Ev.bindc (ag7 l hl _ hg) (Ev.now _))
 | false=>exact Ev.neg (by simp) (Ev.now _)
theorem aH5 (r : Rr) (hr : r.1≤l.length) : Ev (fun k=>O6.f k l (r.1 : Int) r.2) ((ac5 l r).1,l,((ac5 l r).2.1 : Int),(ac5 l r).2.2):=by
 unfold O6.f ac5
 refine Ev.bindc (ar9 l hl r) ?_
 cases hs : ak1 l r with
 | true=>exact Ev.pos (by trivial) (Ev.bindc (ag7 l hl _ hr) (Ev.now _))
 | false=>exact Ev.neg (by simp) (Ev.bindc (x:=aS1) rfl (Ev.bind (aI9 l hl aS1 (by decide) r hr) (Ev.now _)))
theorem ax5 (r : Rr) (hr : r.1≤l.length) : K8.f l (r.1 : Int) r.2 = some ((V1 l r).1,(V1 l r).2.1,l,((V1 l r).2.2.1 : Int),(V1 l r).2.2.2):=by
 unfold K8.f V1
 have h1:=(ai8 l r).2.1 hr
 have h2:=(N0 l (P7 l r).2 ⟨#[58]⟩).2.1 h1
 rw [ag7 l hl r hr]
 simp only [Option.bind_some]
 rw [aa6 l hl _ h1]
 simp only [Option.bind_some]
 cases hs : (E4 l (P7 l r).2 ⟨#[58]⟩).1 with
 | true=>
  rw [if_pos rfl,if_pos rfl,ag7 l hl _ h2]
  rfl
 | false=>rfl
def bY5 (l : List Sg) (a : Int) (m : Int×Int×Rr) : Int×Int×Int×Int×Int×Int×List Sg×Int×Bool:=(a,m.1,m.2.1,(T0 l 0 L3 0 m.2.2).1,(V1 l (aj4 (T0 l 0 L3 0 m.2.2).1 (T0 l 0 L3 0 m.2.2).2)).1,(V1 l (aj4 (T0 l 0 L3 0 m.2.2).1 (T0 l 0 L3 0 m.2.2).2)).2.1,l,((V1 l (aj4 (T0 l 0 L3 0 m.2.2).1 (T0 l 0 L3 0 m.2.2).2)).2.2.1 : Int),(V1 l (aj4 (T0 l 0 L3 0 m.2.2).1 (T0 l 0 L3 0 m.2.2).2)).2.2.2)
theorem aJ5 (r : Rr) (hr : r.1≤l.length) : Ev (fun k=>u6.f k l (r.1 : Int) r.2) ((aa5 l r).1.f0,(aa5 l r).1.f1.f0,(aa5 l r).1.f1.f1,(aa5 l r).1.f2,(aa5 l r).1.f3.f0,(aa5 l r).1.f3.f1,l,((aa5 l r).2.1 : Int),(aa5 l r).2.2):=by
 unfold u6.f
 have g1:=(ab1 l r ⟨#[97,114,103]⟩).2.1 hr
 have g2:=(ai8 l (B7 l r ⟨#[97,114,103]⟩)).2.1 g1
 refine Ev.bindc (W4 l hl r hr _) (Ev.bindc (ag7 l hl _ g1) (Ev.bindc (aa6 l hl _ g2 _) ?_))
 have tail : ∀ (a x y : Int) (r1 : Rr),r1.1≤l.length→Ev (fun k=>u6.j0 k (a,l,((P7 l (B7 l r ⟨#[97,114,103]⟩)).2.1 : Int),(P7 l (B7 l r ⟨#[97,114,103]⟩)).2.2) l (r1.1 : Int) r1.2 x y)
  (a,x,y,(T0 l 0 L3 0 r1).1,(V1 l (aj4 (T0 l 0 L3 0 r1).1 (T0 l 0 L3 0 r1).2)).1,(V1 l (aj4 (T0 l 0 L3 0 r1).1 (T0 l 0 L3 0 r1).2)).2.1,l,((V1 l (aj4 (T0 l 0 L3 0 r1).1 (T0 l 0 L3 0 r1).2)).2.2.1 : Int),(V1 l (aj4 (T0 l 0 L3 0 r1).1 (T0 l 0 L3 0 r1).2)).2.2.2):=by
  intro a x y r1 hr1
  refine Ev.step (fun _=>rfl) ?_
  simp only [u6.j0]
  refine Ev.bindc (x:=L3) rfl ?_
  have key : ∀ (d i : Nat) (c : Int) (r2 : Rr),L3.length - i = d→i≤L3.length→r2.1≤l.length→T0 l 0 L3 0 r1 = T0 l i (L3.drop i) c r2→Ev (fun k=>u6.l0 k (a,l,((P7 l (B7 l r ⟨#[97,114,103]⟩)).2.1 : Int),(P7 l (B7 l r ⟨#[97,114,103]⟩)).2.2) x y L3 l (r2.1 : Int) r2.2 c (i : Int))
   (a,x,y,(T0 l 0 L3 0 r1).1,(V1 l (aj4 (T0 l 0 L3 0 r1).1 (T0 l 0 L3 0 r1).2)).1,(V1 l (aj4 (T0 l 0 L3 0 r1).1 (T0 l 0 L3 0 r1).2)).2.1,l,((V1 l (aj4 (T0 l 0 L3 0 r1).1 (T0 l 0 L3 0 r1).2)).2.2.1 : Int),(V1 l (aj4 (T0 l 0 L3 0 r1).1 (T0 l 0 L3 0 r1).2)).2.2.2):=by
   intro d
   induction d with
   | zero=>
    intro i c r2 hd hi hr2 he
    rw [show i = L3.length by omega,List.drop_length] at he
    rw [he]
    simp only [T0]
    refine Ev.step (fun _=>rfl) ?_
    simp only [u6.l0]
    refine Ev.neg (by omega) ?_
    by_cases hc : c = 0
    ·refine Ev.pos hc ?_
     rw [show aj4 c r2 = (r2.1,true) from if_pos hc]
     exact (Ev.bindc (ax5 l hl (r2.1,true) hr2) (Ev.now _))
    ·refine Ev.neg hc ?_
     rw [show aj4 c r2 = r2 from if_neg hc]
     exact (Ev.bindc (ax5 l hl r2 hr2) (Ev.now _))
   | succ d ih=>
    intro i c r2 hd hi hr2 he
    have hlt : i < L3.length:=by omega
    have hlen : L3.length = 6:=rfl
    have hx : L3[i]? = some L3[i]:=List.getElem?_eq_getElem hlt
    rw [List.drop_eq_getElem_cons hlt] at he
    refine Ev.step (fun _=>rfl) ?_
    simp only [u6.l0]
    rw [show M0 ByteArray.empty L3 (i : Int) = L3[i] from J8 L3 ByteArray.empty hx,m7 (x:=(i : Int) + 1) (by omega) (by omega),show (i : Int) + 1 = ((i + 1 : Nat) : Int) by omega]
    refine Ev.pos (by omega) (Ev.pos (by omega) ?_)
    rw [bM4] at he
    have hh:=(N0 l r2 L3[i]).2.1 hr2
    by_cases hc : c = 0
    ·refine Ev.pos hc (Ev.bindc (aa6 l hl r2 hr2 _) ?_)
     cases hs : (E4 l r2 L3[i]).1 with
     | true=>
      rw [if_pos ⟨hc,hs⟩] at he
      exact Ev.pos (by trivial) (ih (i + 1) _ _ (by omega) (by omega) hh (by rw [he];congr 1))
     | false=>
      rw [if_neg (by rw [hs];simp),if_pos hc] at he
      exact Ev.neg (by simp) (ih (i + 1) _ _ (by omega) (by omega) hh he)
    ·rw [if_neg (fun h=>hc h.1),if_neg hc] at he
     exact Ev.neg hc (ih (i + 1) _ _ (by omega) (by omega) hr2 he)
  exact key L3.length 0 0 r1 rfl (Nat.zero_le _) hr1 rfl
 have g3:=(N0 l (P7 l (B7 l r ⟨#[97,114,103]⟩)).2 ⟨#[38]⟩).2.1 g2
 show Ev _ (bY5 l (P7 l (B7 l r ⟨#[97,114,103]⟩)).1 (ay4 l (P7 l (B7 l r ⟨#[97,114,103]⟩)).2))
 cases hs : (E4 l (P7 l (B7 l r ⟨#[97,114,103]⟩)).2 ⟨#[38]⟩).1 with
 | true=>
  have e : ay4 l (P7 l (B7 l r ⟨#[97,114,103]⟩)).2 = V1 l (E4 l (P7 l (B7 l r ⟨#[97,114,103]⟩)).2 ⟨#[38]⟩).2:=by unfold ay4;rw [if_pos hs]
  rw [e]
  exact Ev.pos (by trivial) (Ev.bindc (ax5 l hl _ g3) (tail _ _ _ _ ((aP7 l _).2.1 g3)))
 | false=>
  have e : ay4 l (P7 l (B7 l r ⟨#[97,114,103]⟩)).2 = (4294967295,4294967295,(E4 l (P7 l (B7 l r ⟨#[97,114,103]⟩)).2 ⟨#[38]⟩).2):=by unfold ay4;rw [if_neg (by rw [hs];simp)]
  rw [e]
  exact Ev.neg (by simp) (tail _ _ _ _ g3)
end
def aq6 (l : List Sg) : Nat→Rr→List Int→List Int×Rr
 | 0,r,q=>(q,r)
 | d + 1,r,q=>if (E4 l r ⟨#[44]⟩).1 = true then aq6 l d (ac5 l (E4 l r ⟨#[44]⟩).2).2 (q ++ [(ac5 l (E4 l r ⟨#[44]⟩).2).1]) else (q,(E4 l r ⟨#[44]⟩).2)
def ai5 (l : List Sg) : Nat→Rr→List B9→List B9×Rr
 | 0,r,q=>(q,r)
 | d + 1,r,q=>if (E4 l r ⟨#[97,110,100]⟩).1 = true then ai5 l d (aa5 l (E4 l r ⟨#[97,110,100]⟩).2).2 (q ++ [(aa5 l (E4 l r ⟨#[97,110,100]⟩).2).1]) else (q,(E4 l r ⟨#[97,110,100]⟩).2)
def ak7 (l : List Sg) (r : Rr) : List Int×Rr:=
 if (E4 l r ⟨#[97,110,121]⟩).1 = true then ([],(E4 l r ⟨#[97,110,121]⟩).2) else aq6 l (l.length + 1) (ac5 l (E4 l r ⟨#[97,110,121]⟩).2).2 [(ac5 l (E4 l r ⟨#[97,110,121]⟩).2).1]
def ifI (l : List Sg) (r : Rr) : List B9×Rr:=
 if (E4 l r ⟨#[105,102]⟩).1 = true then ai5 l (l.length + 1) (aa5 l (E4 l r ⟨#[105,102]⟩).2).2 [(aa5 l (E4 l r ⟨#[105,102]⟩).2).1] else ([],(E4 l r ⟨#[105,102]⟩).2)
def srt (l : List Int) : List Int:=l.mergeSort fun x y=>decide (x≤y)
def doI (l : List Sg) (r : Rr) : Int×Int×Rr:=((an9 l (B7 l r ⟨#[100,111]⟩)).1,(an9 l (B7 l r ⟨#[100,111]⟩)).2.1,B7 l (an9 l (B7 l r ⟨#[100,111]⟩)).2.2 ⟨#[59]⟩)
def ac8 (l : List Sg) (r : Rr) : D9×Rr:=
 let h:=ak7 l (B7 l r ⟨#[111,110]⟩)
 let c:=ifI l h.2
 let a:=doI l c.2
 (⟨srt h.1,c.1,a.1,a.2.1⟩,a.2.2)
def aj9 (l : List Sg) : Nat→Rr→List D9→List D9×Rr
 | 0,r,q=>(q,r)
 | d + 1,r,q=>if r.2 = true then (q,r) else if r.1 < l.length then aj9 l d (ac8 l r).2 (q ++ [(ac8 l r).1]) else (q,r)
def ae2 (l : List Sg) : Int×Int×Int×List D9×Bool:=
 let r1:=B7 l (0,false) ⟨#[97,114,99,104]⟩
 let n:=P7 l r1
 let r2:=B7 l (B7 l n.2 ⟨#[59]⟩) ⟨#[100,101,102,97,117,108,116]⟩
 let a:=an9 l r2
 let q:=aj9 l (l.length + 2) (B7 l a.2.2 ⟨#[59]⟩) []
 (n.1,a.1,a.2.1,q.1,q.2.2)
def af1 (t : ByteArray) : Int×Int×Int×List D9×Bool:=
 if (ab2 t).2 = true∧(ae2 (ab2 t).1).2.2.2.2 = false∧ap5 (ae2 (ab2 t).1).1 (ae2 (ab2 t).1).2.1 (ae2 (ab2 t).1).2.2.1 (ae2 (ab2 t).1).2.2.2.1 = true then ((ae2 (ab2 t).1).1,(ae2 (ab2 t).1).2.1,(ae2 (ab2 t).1).2.2.1,(ae2 (ab2 t).1).2.2.2.1,true) else (0,0,0,[],false)
def by4 (l : List Sg) (h : List Int×Rr) : List Int×List B9×Int×Int×List Sg×Int×Bool:=(srt h.1,(ifI l h.2).1,(doI l (ifI l h.2).2).1,(doI l (ifI l h.2).2).2.1,l,((doI l (ifI l h.2).2).2.2.1 : Int),(doI l (ifI l h.2).2).2.2.2)
section
variable (l : List Sg)
theorem bk1 : ∀ (d : Nat) (r : Rr) (q : List Int),Go' l r (aq6 l d r q).2∧(aq6 l d r q).1.length≤q.length + d
 | 0,r,q=>⟨Go'.refl l r,Nat.le_refl _⟩
 | d + 1,r,q=>by
  unfold aq6
  split
  ·have:=bk1 d (ac5 l (E4 l r ⟨#[44]⟩).2).2 (q ++ [(ac5 l (E4 l r ⟨#[44]⟩).2).1])
   rw [List.length_append,List.length_singleton] at this
   exact ⟨((N0 l r _).trans l (aD2 l _)).trans l this.1,by omega⟩
  ·exact ⟨N0 l r _,by show q.length≤_;omega⟩
theorem bb6 : ∀ (d : Nat) (r : Rr) (q : List B9),Go' l r (ai5 l d r q).2∧(ai5 l d r q).1.length≤q.length + d
 | 0,r,q=>⟨Go'.refl l r,Nat.le_refl _⟩
 | d + 1,r,q=>by
  unfold ai5
  split
  ·have:=bb6 d (aa5 l (E4 l r ⟨#[97,110,100]⟩).2).2 (q ++ [(aa5 l (E4 l r ⟨#[97,110,100]⟩).2).1])
   rw [List.length_append,List.length_singleton] at this
   exact ⟨((N0 l r _).trans l (aE6 l _)).trans l this.1,by omega⟩
  ·exact ⟨N0 l r _,by show q.length≤_;omega⟩
theorem bh7 (r : Rr) : Go' l r (ak7 l r).2∧(ak7 l r).1.length≤l.length + 2:=by
 unfold ak7
 split
 ·exact ⟨N0 l r _,Nat.zero_le _⟩
 ·have:=bk1 l (l.length + 1) (ac5 l (E4 l r ⟨#[97,110,121]⟩).2).2 [(ac5 l (E4 l r ⟨#[97,110,121]⟩).2).1]
  rw [List.length_singleton] at this
  exact ⟨((N0 l r _).trans l (aD2 l _)).trans l this.1,by omega⟩
theorem bW6 (r : Rr) : Go' l r (ifI l r).2∧(ifI l r).1.length≤l.length + 2:=by
 unfold ifI
 split
 ·have:=bb6 l (l.length + 1) (aa5 l (E4 l r ⟨#[105,102]⟩).2).2 [(aa5 l (E4 l r ⟨#[105,102]⟩).2).1]
  rw [List.length_singleton] at this
  exact ⟨((N0 l r _).trans l (aE6 l _)).trans l this.1,by omega⟩
 ·exact ⟨N0 l r _,Nat.zero_le _⟩
theorem bT1 (r : Rr) : Go' l r (doI l r).2.2:=((ab1 l r _).trans l (aZ9 l _)).trans l (ab1 l _ _)
theorem bm2 (r : Rr) : Go' l r (ac8 l r).2∧(ac8 l r).1.f0.length≤l.length + 2∧(ac8 l r).1.f1.length≤l.length + 2∧((ac8 l r).2.2 = false→r.1 < (ac8 l r).2.1):=by
 unfold ac8
 have h:=bh7 l (B7 l r ⟨#[111,110]⟩)
 have c:=bW6 l (ak7 l (B7 l r ⟨#[111,110]⟩)).2
 have a:=bT1 l (ifI l (ak7 l (B7 l r ⟨#[111,110]⟩)).2).2
 have all:=(h.1.trans l c.1).trans l a
 refine ⟨(ab1 l r _).trans l all,?_,c.2,fun hb=>?_⟩
 ·show (srt _).length≤_
  unfold srt
  rw [List.length_mergeSort];exact h.2
 ·have h1 : (B7 l r ⟨#[111,110]⟩).2 = false:=by
   cases hm : (B7 l r ⟨#[111,110]⟩).2 with
   | false=>rfl
   | true=>have:=all.2.2 hm;rw [this] at hb;cases hb
  exact Nat.lt_of_lt_of_le (bJ5 l h1) all.1
theorem bc1 : ∀ (d : Nat) (r : Rr) (q : List D9),(∀ x ∈ q,x.f0.length≤l.length + 2∧x.f1.length≤l.length + 2)→(aj9 l d r q).1.length≤q.length + d∧∀ x ∈ (aj9 l d r q).1,x.f0.length≤l.length + 2∧x.f1.length≤l.length + 2
 | 0,r,q,h=>⟨Nat.le_refl _,h⟩
 | d + 1,r,q,h=>by
  unfold aj9
  split
  ·exact ⟨by show q.length≤_;omega,h⟩
  ·split
   ·have hr:=bm2 l r
    have:=bc1 d (ac8 l r).2 (q ++ [(ac8 l r).1]) (fun x hx=>by
     rcases List.mem_append.1 hx with hx | hx
     ·exact h x hx
     ·rw [List.mem_singleton] at hx;subst hx;exact ⟨hr.2.1,hr.2.2.1⟩)
    rw [List.length_append,List.length_singleton] at this
    exact ⟨by omega,this.2⟩
   ·exact ⟨by show q.length≤_;omega,h⟩
theorem bu7 (hl : l.length≤1200) : Sm (ae2 l).2.2.2.1:=by
 have:=bc1 l (l.length + 2) (B7 l (an9 l (B7 l (B7 l (P7 l (B7 l (0,false) ⟨#[97,114,99,104]⟩)).2 ⟨#[59]⟩) ⟨#[100,101,102,97,117,108,116]⟩)).2.2 ⟨#[59]⟩) [] (fun x hx=>by cases hx)
 refine ⟨?_,fun x hx=>?_⟩
 ·have h1:=this.1
  rw [List.length_nil] at h1
  show (aj9 l (l.length + 2) _ []).1.length≤_
  omega
 ·have h2:=this.2 x hx
  omega
variable (hl : l.length≤1200)
include hl
theorem ay5 (N : List Int) (C : List B9) (r : Rr) (hr : r.1≤l.length) : Ev (fun k=>n6.j1 k N l (r.1 : Int) r.2 C) (N,C,(doI l r).1,(doI l r).2.1,l,((doI l r).2.2.1 : Int),(doI l r).2.2.2):=by
 refine Ev.step (fun _=>rfl) ?_
 simp only [n6.j1]
 have g1:=(ab1 l r ⟨#[100,111]⟩).2.1 hr
 have g2:=(aZ9 l (B7 l r ⟨#[100,111]⟩)).2.1 g1
 exact Ev.bindc (W4 l hl r hr _) (Ev.bind (aC4 l hl _ g1) (Ev.bindc (W4 l hl _ g2 _) (Ev.now _)))
theorem be6 (N : List Int) : ∀ (d : Nat) (r : Rr) (q : List B9) (a b c e f g : Int),l.length - r.1 < d→r.1≤l.length→q.length + d≤5000→Ev (fun k=>n6.l1 k N l (r.1 : Int) r.2 q a b c e f g) (N,(ai5 l d r q).1,(doI l (ai5 l d r q).2).1,(doI l (ai5 l d r q).2).2.1,l,((doI l (ai5 l d r q).2).2.2.1 : Int),(doI l (ai5 l d r q).2).2.2.2):=by
 intro d
 induction d with
 | zero=>intro r q a b c e f g h;omega
 | succ d ih=>
  intro r q a b c e f g h hr hq
  refine Ev.step (fun _=>rfl) ?_
  simp only [n6.l1]
  have g1:=(N0 l r ⟨#[97,110,100]⟩).2.1 hr
  refine Ev.bindc (aa6 l hl r hr _) ?_
  unfold ai5
  cases hs : (E4 l r ⟨#[97,110,100]⟩).1 with
  | true=>
   have hy:=aR2 l hs
   have g2:=aE6 l (E4 l r ⟨#[97,110,100]⟩).2
   rw [if_pos rfl]
   refine Ev.pos (by trivial) (Ev.bind (aJ5 l hl _ g1) (Ev.pos (by simp;omega) ?_))
   refine ih _ _ _ _ _ _ _ _ ?_ (g2.2.1 g1) (by simp;omega)
   have:=g2.1
   rw [hy.1] at this ⊢
   have h3 : r.1 + 1≤(aa5 l (r.1 + 1,false)).2.1:=this
   omega
  | false=>
   rw [if_neg (by simp)]
   exact Ev.neg (by simp) (ay5 l hl N q _ g1)
theorem aV5 (N : List Int) (hN : N.length≤5000) (r : Rr) (hr : r.1≤l.length) : Ev (fun k=>n6.j0 k l (r.1 : Int) r.2 N) (by4 l (N,r)):=by
 unfold by4
 refine Ev.step (fun _=>rfl) ?_
 simp only [n6.j0]
 have g1:=(N0 l r ⟨#[105,102]⟩).2.1 hr
 refine Ev.bindc (x:=srt N) (by unfold K9.f;rw [if_pos (by omega)];rfl) (Ev.bindc (aa6 l hl r hr _) ?_)
 unfold ifI
 cases hs : (E4 l r ⟨#[105,102]⟩).1 with
 | true=>
  rw [if_pos rfl]
  refine Ev.pos (by trivial) (Ev.bind (aJ5 l hl _ g1) (Ev.pos (by simp) ?_))
  exact be6 l hl _ (l.length + 1) _ _ _ _ _ _ _ _ (by omega) ((aE6 l _).2.1 g1) (by simp;omega)
 | false=>
  rw [if_neg (by simp)]
  exact Ev.neg (by simp) (ay5 l hl _ [] _ g1)
theorem bn4 : ∀ (d : Nat) (r : Rr) (q : List Int),l.length - r.1 < d→r.1≤l.length→q.length + d≤5000→∀ X,Ev (fun k=>n6.j0 k l ((aq6 l d r q).2.1 : Int) (aq6 l d r q).2.2 (aq6 l d r q).1) X→Ev (fun k=>n6.l0 k l (r.1 : Int) r.2 q) X:=by
 intro d
 induction d with
 | zero=>intro r q h;omega
 | succ d ih=>
  intro r q h hr hq X hX
  refine Ev.step (fun _=>rfl) ?_
  simp only [n6.l0]
  have g1:=(N0 l r ⟨#[44]⟩).2.1 hr
  refine Ev.bindc (aa6 l hl r hr _) ?_
  unfold aq6 at hX
  cases hs : (E4 l r ⟨#[44]⟩).1 with
  | true=>
   have hy:=aR2 l hs
   have g2:=aD2 l (E4 l r ⟨#[44]⟩).2
   rw [hs,if_pos rfl] at hX
   refine Ev.pos (by trivial) (Ev.bind (aH5 l hl _ g1) (Ev.pos (by simp;omega) ?_))
   refine ih _ _ ?_ (g2.2.1 g1) (by simp;omega) X hX
   have:=g2.1
   rw [hy.1] at this ⊢
   have h3 : r.1 + 1≤(ac5 l (r.1 + 1,false)).2.1:=this
   omega
  | false=>
   rw [hs,if_neg (by simp)] at hX
   exact Ev.neg (by simp) hX
theorem bl4 (r : Rr) (hr : r.1≤l.length) : Ev (fun k=>n6.f k l (r.1 : Int) r.2) ((ac8 l r).1.f0,(ac8 l r).1.f1,(ac8 l r).1.f2,(ac8 l r).1.f3,l,((ac8 l r).2.1 : Int),(ac8 l r).2.2):=by
 show Ev _ (by4 l (ak7 l (B7 l r ⟨#[111,110]⟩)))
 unfold n6.f
 have g1:=(ab1 l r ⟨#[111,110]⟩).2.1 hr
 have g2:=(N0 l (B7 l r ⟨#[111,110]⟩) ⟨#[97,110,121]⟩).2.1 g1
 have gh:=bh7 l (B7 l r ⟨#[111,110]⟩)
 have gl:=gh.1.2.1 g1
 refine Ev.bindc (W4 l hl r hr _) (Ev.bindc (aa6 l hl _ g1 _) ?_)
 have mid:=fun (h : List Int×Rr) (h1 : h.1.length≤5000) (h2 : h.2.1≤l.length)=>aV5 l hl h.1 h1 h.2 h2
 cases hs : (E4 l (B7 l r ⟨#[111,110]⟩) ⟨#[97,110,121]⟩).1 with
 | true=>
  have e1 : ak7 l (B7 l r ⟨#[111,110]⟩) = ([],(E4 l (B7 l r ⟨#[111,110]⟩) ⟨#[97,110,121]⟩).2):=by unfold ak7;rw [if_pos hs]
  rw [e1]
  exact Ev.pos (by trivial) (mid ([],_) (Nat.zero_le _) g2)
 | false=>
  have e1 : ak7 l (B7 l r ⟨#[111,110]⟩) = aq6 l (l.length + 1) (ac5 l (E4 l (B7 l r ⟨#[111,110]⟩) ⟨#[97,110,121]⟩).2).2 [(ac5 l (E4 l (B7 l r ⟨#[111,110]⟩) ⟨#[97,110,121]⟩).2).1]:=by unfold ak7;rw [if_neg (by rw [hs];simp)]
  have hm:=mid (ak7 l (B7 l r ⟨#[111,110]⟩)) (by omega) gl
  rw [e1] at hm ⊢
  refine Ev.neg (by simp) (Ev.bind (aH5 l hl _ g2) (Ev.pos (by simp) ?_))
  exact bn4 l hl (l.length + 1) _ _ (by omega) ((aD2 l _).2.1 g2) (by simp;omega) _ hm
theorem bf2 (t6 : Int×List Sg×Int×Bool) (t12 : Int×Int×List Sg×Int×Bool) : ∀ (d : Nat) (r : Rr) (q : List D9),(l.length - r.1 + 1 < d∨(r.2 = true∧0 < d))→r.1≤l.length→q.length + d≤5000→∀ X,Ev (fun k=>A8.j0 k t6 t12 l ((aj9 l d r q).2.1 : Int) (aj9 l d r q).2.2 (aj9 l d r q).1) X→Ev (fun k=>A8.l0 k t6 t12 l (r.1 : Int) r.2 q) X:=by
 intro d
 induction d with
 | zero=>intro r q h;omega
 | succ d ih=>
  intro r q h hr hq X hX
  refine Ev.step (fun _=>rfl) ?_
  simp only [A8.l0]
  unfold aj9 at hX
  cases hb : r.2 with
  | true=>
   rw [hb,if_pos rfl] at hX
   rw [hb] at hX
   exact Ev.pos (by trivial) hX
  | false=>
   rw [hb,if_neg (by simp)] at hX
   refine Ev.neg (by simp) ?_
   have h0 : l.length - r.1 + 1 < d + 1:=h.resolve_right (fun x=>by rw [hb] at x;cases x.1)
   by_cases hlt : r.1 < l.length
   ·rw [if_pos hlt] at hX
    have g:=bm2 l r
    have e:=bl4 l hl r hr
    rw [hb] at e
    refine Ev.pos (by omega) (Ev.bind e (Ev.pos (by simp;omega) ?_))
    refine ih _ _ ?_ (g.1.2.1 hr) (by simp;omega) X hX
    cases hb2 : (ac8 l r).2.2 with
    | true=>exact .inr ⟨rfl,by omega⟩
    | false=>have:=g.2.2.2 hb2;left;omega
   ·rw [if_neg hlt,hb] at hX
    exact Ev.neg (by omega) hX
end
theorem aG6 (t : ByteArray) : Ev (fun k=>A8.f k t) (af1 t):=by
 unfold A8.f
 refine Ev.bind (aT8 t) ?_
 have hl:=aS0 t
 unfold af1
 generalize ab2 t = s at hl ⊢
 obtain ⟨l,ok⟩:=s
 dsimp only at hl ⊢
 cases ok with
 | false=>rw [if_neg (by simp)];exact Ev.neg (by simp) (Ev.now _)
 | true=>
  refine Ev.pos (by trivial) ?_
  have hs:=bu7 l hl
  have g1:=(ab1 l (0,false) ⟨#[97,114,99,104]⟩).2.1 (Nat.zero_le _)
  have g2:=(ai8 l (B7 l (0,false) ⟨#[97,114,99,104]⟩)).2.1 g1
  have g3:=(ab1 l (P7 l (B7 l (0,false) ⟨#[97,114,99,104]⟩)).2 ⟨#[59]⟩).2.1 g2
  have g4:=(ab1 l (B7 l (P7 l (B7 l (0,false) ⟨#[97,114,99,104]⟩)).2 ⟨#[59]⟩) ⟨#[100,101,102,97,117,108,116]⟩).2.1 g3
  have g5:=(aZ9 l (B7 l (B7 l (P7 l (B7 l (0,false) ⟨#[97,114,99,104]⟩)).2 ⟨#[59]⟩) ⟨#[100,101,102,97,117,108,116]⟩)).2.1 g4
  have g6:=(ab1 l (an9 l (B7 l (B7 l (P7 l (B7 l (0,false) ⟨#[97,114,99,104]⟩)).2 ⟨#[59]⟩) ⟨#[100,101,102,97,117,108,116]⟩)).2.2 ⟨#[59]⟩).2.1 g5
  refine Ev.bindc (W4 l hl (0,false) (Nat.zero_le _) _) (Ev.bindc (ag7 l hl _ g1) (Ev.bindc (W4 l hl _ g2 _) (Ev.bindc (W4 l hl _ g3 _) (Ev.bind (aC4 l hl _ g4) (Ev.bindc (W4 l hl _ g5 _) ?_)))))
  refine bf2 l hl _ _ (l.length + 2) _ [] (.inl (by omega)) g6 (by simp;omega) _ ?_
  refine Ev.step (fun _=>rfl) ?_
  simp only [A8.j0]
  have hp:=aw4 (ae2 l).1 (ae2 l).2.1 (ae2 l).2.2.1 (ae2 l).2.2.2.1 hs
  by_cases hb : (ae2 l).2.2.2.2 = true
  ·rw [if_neg (fun h=>by rw [hb] at h;cases h.2.1)]
   exact Ev.pos hb (Ev.now _)
  ·have hb' : (ae2 l).2.2.2.2 = false:=by simpa using hb
   refine Ev.neg hb (Ev.bind hp ?_)
   by_cases hv : ap5 (ae2 l).1 (ae2 l).2.1 (ae2 l).2.2.1 (ae2 l).2.2.2.1 = true
   ·refine Ev.pos hv ?_
    rw [if_pos (show True∧_∧_ from ⟨trivial,hb',hv⟩)];exact Ev.now _
   ·refine Ev.neg hv ?_
    rw [if_neg (fun h=>hv h.2.2)];exact Ev.now _
end Go.Proofs.YtahmbcgolnplgaaGreat.PFnNoHoles
namespace Go.Proofs.YtahmbcgolnplgaaGreat.PFnNoHoles
open Go Go.RowKit Go.Proofs.YtahmbcgolnplgaaGreatA Go.Proofs.YtahmbcgolnplgaaGreatL
def j9 {α : Type} (g : Nat→Option α) (P : α→Prop) : Prop:=∃ r,Ev g r∧P r
section
variable {α β : Type} {P Q : α→Prop} {R : β→Prop}
theorem j9.now {r : α} (h : P r) : j9 (fun _=>some r) P:=⟨r,Ev.now r,h⟩
theorem j9.bind {g : Nat→Option α} {f : Nat→α→Option β} (h : j9 g P) (k : ∀ a,P a→j9 (fun n=>f n a) R) : j9 (fun n=>(g n).bind (f n)) R:=by
 obtain ⟨a,ha,hp⟩:=h
 obtain ⟨r,hr,h⟩:=k a hp
 exact ⟨r,Ev.bind ha hr,h⟩
theorem j9.bindc {a : Option α} {f : Nat→α→Option β} (h : ∃ x,a = some x∧P x) (k : ∀ x,P x→j9 (fun n=>f n x) R) : j9 (fun n=>a.bind (f n)) R:=by
 obtain ⟨a,ha,hp⟩:=h
 obtain ⟨r,hr,h⟩:=k a hp
 exact ⟨r,Ev.bindc ha hr,h⟩
theorem j9.bind1 {g : Nat→Option α} {f : Nat→α→Option β} {a : α} (h : Ev g a) (k : j9 (fun n=>f n a) R) : j9 (fun n=>(g n).bind (f n)) R:=by
 obtain ⟨r,hr,k⟩:=k
 exact ⟨r,Ev.bind h hr,k⟩
theorem j9.bindc1 {a : Option α} {f : Nat→α→Option β} {x : α} (h : a = some x) (k : j9 (fun n=>f n x) R) : j9 (fun n=>a.bind (f n)) R:=by
 obtain ⟨r,hr,k⟩:=k
 exact ⟨r,Ev.bindc h hr,k⟩
theorem j9.pos {c : Prop} [Decidable c] {f g : Nat→Option α} (h : c) (k : j9 f P) : j9 (fun n=>if c then f n else g n) P:=by
 obtain ⟨r,hr,k⟩:=k
 exact ⟨r,Ev.pos h hr,k⟩
theorem j9.neg {c : Prop} [Decidable c] {f g : Nat→Option α} (h : ¬ c) (k : j9 g P) : j9 (fun n=>if c then f n else g n) P:=by
 obtain ⟨r,hr,k⟩:=k
 exact ⟨r,Ev.neg h hr,k⟩
theorem j9.grd {c : Prop} [Decidable c] {f : Nat→Option α} (h : c) (k : j9 f P) : j9 (fun n=>if c then f n else none) P:=j9.pos h k
theorem j9.both {c : Prop} [Decidable c] {f g : Nat→Option α} (h : c→j9 f P) (k : ¬ c→j9 g P) : j9 (fun n=>if c then f n else g n) P:=by
 by_cases hc : c
 ·exact j9.pos hc (h hc)
 ·exact j9.neg hc (k hc)
theorem j9.step {g f : Nat→Option α} (h : ∀ k,g (k + 1) = f k) (k : j9 f P) : j9 g P:=by
 obtain ⟨r,hr,k⟩:=k
 exact ⟨r,Ev.step h hr,k⟩
theorem j9.mono {g : Nat→Option α} (h : j9 g P) (k : ∀ r,P r→Q r) : j9 g Q:=by
 obtain ⟨r,hr,h⟩:=h
 exact ⟨r,hr,k r h⟩
theorem j9.one {g : Nat→Option α} {r : α} (h : Ev g r) (k : P r) : j9 g P:=⟨r,h,k⟩
theorem j9.up {σ : Type} (L : Nat→σ→Int→Option α) (m : Nat) (Inv : Nat→σ→Prop)
 (step : ∀ (j : Nat) s,j≤m→Inv j s→(∀ s',j < m→Inv (j + 1) s'→j9 (fun k=>L k s' ((j : Int) + 1)) P)→j9 (fun k=>L k s (j : Int)) P) :
 ∀ s,Inv 0 s→j9 (fun k=>L k s 0) P:=by
 have key : ∀ (d j : Nat) s,m - j = d→j≤m→Inv j s→j9 (fun k=>L k s (j : Int)) P:=by
  intro d
  induction d with
  | zero=>intro j s hd hj hi;exact step j s hj hi (fun s' h _=>by omega)
  | succ d ih=>intro j s hd hj hi;exact step j s hj hi (fun s' h hi'=>by have:=ih (j + 1) s' (by omega) (by omega) hi';simpa using this)
 intro s hs
 exact key _ 0 s rfl (Nat.zero_le _) hs
end
theorem M2 (x lo hi : Int) : j8.f x lo hi = some (decide (lo≤x∧x≤hi)):=by
 unfold j8.f
 by_cases h1 : x ≥ lo
 ·rw [if_pos h1];congr 1;rw [Bool.eq_iff_iff];simp;omega
 ·rw [if_neg h1];congr 1;rw [Bool.eq_iff_iff];simp;omega
def bz1 (a d : Int) : Int:=if (0≤a∧a≤5)∧0≤d∧d≤65535 then 65536 * a + d else 0
theorem aw7 (a d : Int) : E8.f a d = some (bz1 a d):=by
 unfold E8.f bz1
 simp only [M2,Option.bind_some,decide_eq_true_eq]
 by_cases h1 : 0≤a∧a≤5
 ·by_cases h2 : 0≤d∧d≤65535
  ·rw [if_pos h1,if_pos h2,if_pos ⟨h1,h2⟩,m7 (x:=65536 * a) (by omega) (by omega),m7 (by omega) (by omega)]
  ·rw [if_pos h1,if_neg h2,if_neg (fun h=>h2 h.2)]
 ·rw [if_neg h1,if_neg (fun h=>h1 h.1)]
abbrev Ln:=j3
abbrev Rul:=D9
def at0 (op k : Int) : Ln:=⟨ByteArray.empty,⟨op,k,0,0⟩,ByteArray.empty,ByteArray.empty⟩
def aJ3 (op k : Int) (y n : ByteArray) : Ln:=⟨ByteArray.empty,⟨op,k,0,0⟩,y,n⟩
def ag2 (a : ByteArray) : Ln:=⟨a,⟨0,0,0,0⟩,ByteArray.empty,ByteArray.empty⟩
def bA : ByteArray:=⟨#[97]⟩
def bB : ByteArray:=⟨#[98]⟩
def hiL (c : B9) : List Ln:=[at0 1 (3 + 2 * c.f0),at0 2 c.f1.f0]
def loL (c : B9) : List Ln:=[at0 1 (2 + 2 * c.f0),at0 2 c.f1.f1]
def bx0 (c : B9) (b y n : ByteArray) : List Ln:=((hiL c ++ [aJ3 3 c.f3.f0 (b ++ bA) n,ag2 (b ++ bA)]) ++ loL c) ++ [aJ3 3 c.f3.f1 y n]
def aB8 (c : B9) (op : Int) (b y n : ByteArray) : List Ln:=((hiL c ++ [aJ3 4 c.f3.f0 y (b ++ bA),ag2 (b ++ bA),aJ3 3 c.f3.f0 (b ++ bB) n,ag2 (b ++ bB)]) ++ loL c) ++ [aJ3 op c.f3.f1 y n]
def aD4 (c : B9) (b y n : ByteArray) : List Ln:=
 if U7 c = true then
  if c.f2 = 1 then bx0 c b y n else if c.f2 = 2 then bx0 c b n y else if c.f2 = 5 then aB8 c 4 b y n else if c.f2 = 6 then aB8 c 5 b y n else if c.f2 = 4 then aB8 c 4 b n y else aB8 c 5 b n y
 else []
theorem bc6 (c : B9) (b y n : ByteArray) : (aD4 c b y n).length≤9:=by
 have h1 : ∀ y n,(bx0 c b y n).length = 7:=fun _ _=>rfl
 have h2 : ∀ o y n,(aB8 c o b y n).length = 9:=fun _ _ _=>rfl
 unfold aD4
 repeat' split
 all_goals first | (rw [h1];omega) | (rw [h2];omega) | exact Nat.zero_le _
theorem bF2 {c : B9} (h : U7 c = true) : (0≤c.f0∧c.f0≤2)∧1≤c.f2∧c.f2≤6:=by
 unfold U7 at h
 simp only [Bool.and_eq_true,decide_eq_true_eq] at h
 exact ⟨h.1,h.2.2.2⟩
theorem bsz (x : UInt8) : (⟨#[x]⟩ : ByteArray).size = 1:=rfl
theorem aZ6 (c : B9) : aa7.f c.f0 c.f1.f0 c.f1.f1 c.f2 c.f3.f0 c.f3.f1 = some (U7 c):=ao6 c
theorem aN8 (c : B9) (b y n : ByteArray) (hb : b.size≤1000000) : Ev (fun k=>F8.f k c.f0 c.f1.f0 c.f1.f1 c.f2 c.f3.f0 c.f3.f1 b y n) (aD4 c b y n):=by
 unfold F8.f aD4
 refine Ev.bindc (aZ6 c) ?_
 by_cases h : U7 c = true
 ·rw [if_pos h]
  obtain ⟨hc,h1,h2⟩:=bF2 h
  refine Ev.pos h ?_
  simp only [G1.f,H1.f,A0.f,Option.bind_some,bsz]
  rw [m7 (x:=2 * c.f0) (by omega) (by omega),m7 (x:=3 + 2 * c.f0) (by omega) (by omega),m7 (x:=2 + 2 * c.f0) (by omega) (by omega)]
  refine Ev.pos (by omega) (Ev.pos (by omega) ?_)
  have tail : ∀ (p q : ByteArray) (o : Int),Ev (fun k=>F8.j0 k c.f0 c.f1.f0 c.f1.f1 c.f2 c.f3.f0 c.f3.f1 b (ByteArray.empty,1,3 + 2 * c.f0,0,0,ByteArray.empty,ByteArray.empty) (ByteArray.empty,2,c.f1.f0,0,0,ByteArray.empty,ByteArray.empty) (ByteArray.empty,1,2 + 2 * c.f0,0,0,ByteArray.empty,ByteArray.empty) (ByteArray.empty,2,c.f1.f1,0,0,ByteArray.empty,ByteArray.empty) p q o) (aB8 c o b p q):=by
   intro p q o
   refine Ev.step (fun _=>rfl) ?_
   simp only [F8.j0,H1.f,A0.f,Option.bind_some]
   exact Ev.pos (by simp) (Ev.pos (by simp) (Ev.pos (by simp) (Ev.now _)))
  by_cases e1 : c.f2 = 1
  ·rw [if_pos e1]
   exact Ev.pos e1 (Ev.pos (by simp) (Ev.pos (by simp) (Ev.pos (by simp) (Ev.now _))))
  rw [if_neg e1];refine Ev.neg e1 ?_
  by_cases e2 : c.f2 = 2
  ·rw [if_pos e2]
   exact Ev.pos e2 (Ev.pos (by simp) (Ev.pos (by simp) (Ev.pos (by simp) (Ev.now _))))
  rw [if_neg e2];refine Ev.neg e2 ?_
  by_cases e4 : c.f2 = 4
  ·rw [if_neg (by omega),if_neg (by omega),if_pos e4]
   exact Ev.pos e4 (tail _ _ _)
  refine Ev.neg e4 ?_
  by_cases e6 : c.f2 = 6
  ·rw [if_neg (by omega),if_pos e6]
   exact Ev.pos e6 (tail _ _ _)
  refine Ev.neg e6 ?_
  by_cases e3 : c.f2 = 3
  ·rw [if_neg (by omega),if_neg (by omega),if_neg (by omega)]
   exact Ev.pos e3 (tail _ _ _)
  ·rw [if_pos (by omega)]
   exact Ev.neg e3 (tail _ _ _)
 ·rw [if_neg h];exact Ev.neg h (Ev.now _)
def S1 {α β : Type} (g : Nat→α→List β) : Nat→List α→List β
 | _,[]=>[]
 | i,x :: r=>g i x ++ S1 g (i + 1) r
theorem ay1 {α β : Type} (g : Nat→α→List β) (B : Nat) : ∀ (xs : List α) (i : Nat),(∀ i x,x ∈ xs→(g i x).length≤B)→(S1 g i xs).length≤B * xs.length
 | [],_,_=>Nat.zero_le _
 | x :: r,i,hg=>by
  have h1:=hg i x (List.mem_cons_self ..);have h2:=ay1 g B r (i + 1) (fun i y hy=>hg i y (List.mem_cons_of_mem _ hy))
  simp only [S1,List.length_append,List.length_cons,Nat.mul_add,Nat.mul_one];omega
theorem bu0 {α β : Type} (L : Nat→List β→Int→Option (List β)) (xs : List α) (g : Nat→α→List β) (B : Nat) (fin : List β) (hg : ∀ i x,x ∈ xs→(g i x).length≤B)
 (stop : ∀ q,q.length≤B * xs.length→Ev (fun k=>L k q (xs.length : Int)) (q ++ fin))
 (step : ∀ (i : Nat) x q r,xs[i]? = some x→q.length≤B * i→Ev (fun k=>L k (q ++ g i x) ((i : Int) + 1)) r→Ev (fun k=>L k q (i : Int)) r) : Ev (fun k=>L k [] 0) (S1 g 0 xs ++ fin):=by
 have key : ∀ (d i : Nat) (q : List β),xs.length - i = d→i≤xs.length→q.length≤B * i→Ev (fun k=>L k q (i : Int)) (q ++ (S1 g i (xs.drop i) ++ fin)):=by
  intro d
  induction d with
  | zero=>
   intro i q hd hi hq
   have : i = xs.length:=by omega
   subst this
   rw [List.drop_length]
   exact stop q hq
  | succ d ih=>
   intro i q hd hi hq
   have hlt : i < xs.length:=by omega
   have hx : xs[i]? = some xs[i]:=List.getElem?_eq_getElem hlt
   have hgl:=hg i xs[i] (List.getElem_mem hlt)
   rw [List.drop_eq_getElem_cons hlt]
   refine step i _ _ _ hx hq ?_
   have:=ih (i + 1) (q ++ g i xs[i]) (by omega) (by omega) (by rw [List.length_append,Nat.mul_add,Nat.mul_one];omega)
   simp only [S1]
   rw [show ((i + 1 : Nat) : Int) = (i : Int) + 1 by omega] at this
   simp only [List.append_assoc] at this ⊢
   exact this
 have:=key xs.length 0 [] rfl (Nat.zero_le _) (Nat.zero_le _)
 simpa using this
def aj6 (i : Nat) : ByteArray:=strOfNums [48 + (i : Int)]
theorem bC0 (i : Nat) : (aj6 i).size = 1:=by unfold aj6;rw [strOfNums_size];rfl
theorem ax9 (i : Nat) (h : i < 3) : Ev (fun k=>K7.f k (i : Int)) (aj6 i):=by
 have key : ∀ (s : ByteArray),(∀ m,K7.f (m + 5) (i : Int) = some s)→s = aj6 i→Ev (fun k=>K7.f k (i : Int)) (aj6 i):=fun s hm he=>
  ⟨5,fun k hk=>by obtain ⟨m,rfl⟩ : ∃ m,k = m + 5:=⟨k - 5,by omega⟩;rw [← he];exact hm m⟩
 match i,h with
 | 0,_=>exact key ⟨#[48]⟩ (fun m=>rfl) (by decide)
 | 1,_=>exact key ((⟨#[48,49,50,51,52,53,54,55,56,57,97,98,99,100,101,102]⟩ : ByteArray).extract 1 2 ++ ByteArray.empty) (fun m=>by kernel_rfl) (by decide)
 | 2,_=>exact key ((⟨#[48,49,50,51,52,53,54,55,56,57,97,98,99,100,101,102]⟩ : ByteArray).extract 2 3 ++ ByteArray.empty) (fun m=>by kernel_rfl) (by decide)
def bN : ByteArray:=⟨#[110]⟩
def bZ : ByteArray:=⟨#[122]⟩
def aM8 (b n : ByteArray) (i : Nat) (c : B9) : List Ln:=aD4 c (b ++ aj6 i) ((b ++ bN) ++ aj6 i) n ++ [ag2 ((b ++ bN) ++ aj6 i)]
def az1 (r : Rul) (b n : ByteArray) : List Ln:=S1 (aM8 b n) 0 r.f1 ++ [at0 8 (bz1 r.f2 r.f3)]
theorem bb4 (b n : ByteArray) (i : Nat) (c : B9) : (aM8 b n i c).length≤10:=by
 have:=bc6 c (b ++ aj6 i) ((b ++ bN) ++ aj6 i) n
 unfold aM8;rw [List.length_append,List.length_singleton];omega
theorem bc4 (r : Rul) (b n : ByteArray) : (az1 r b n).length≤10 * r.f1.length + 1:=by
 have:=ay1 (aM8 b n) 10 r.f1 0 (fun i x _=>bb4 b n i x)
 unfold az1;rw [List.length_append,List.length_singleton];omega
theorem aN6 (r : Rul) (b n : ByteArray) (hc : r.f1.length≤3) (h : b.size≤900000) : Ev (fun k=>G8.f k r.f0 r.f1 r.f2 r.f3 b n) (az1 r b n):=by
 unfold G8.f az1
 refine bu0 (fun k q i=>G8.l0 k r.f0 r.f1 r.f2 r.f3 b n q i) r.f1 (aM8 b n) 10 _ (fun i x _=>bb4 b n i x) ?_ ?_
 ·intro q hq
  refine Ev.step (fun _=>rfl) ?_
  simp only [G8.l0,G1.f]
  exact Ev.neg (by omega) (Ev.bindc (aw7 _ _) (Ev.bindc rfl (Ev.pos (by simp;omega) (Ev.now _))))
 ·intro i x q r' hx hq hr
  have hi:=G7 hx
  have hd:=bC0 i
  have hl:=bc6 x (b ++ aj6 i) ((b ++ bN) ++ aj6 i) n
  refine Ev.step (fun _=>rfl) ?_
  simp only [G8.l0,bw5 hx,bsz,A0.f]
  rw [m7 (x:=(i : Int) + 1) (by omega) (by omega)]
  refine Ev.pos (by omega) (Ev.pos (by omega) (Ev.pos (by omega) (Ev.bind (ax9 i (by omega)) (Ev.pos (by rw [ByteArray.size_append,bsz];omega) (Ev.bind (ax9 i (by omega)) (Ev.pos (by omega) (Ev.bind (aN8 x _ _ _ (by rw [ByteArray.size_append];omega)) (Ev.pos ?_ (Ev.bindc rfl (Ev.pos ?_ ?_))))))))))
  ·show q.length + (aD4 x (b ++ aj6 i) ((b ++ bN) ++ aj6 i) n).length < _;omega
  ·show (q ++ aD4 x (b ++ aj6 i) ((b ++ bN) ++ aj6 i) n).length + _ < _;rw [List.length_append,List.length_singleton];omega
  ·unfold aM8 at hr
   rw [← List.append_assoc] at hr
   exact hr
def ah9 (s : ByteArray) (i : Nat) : ByteArray:=s ++ strOfNums [97 + (i : Int)]
def aM2 (n : Int) (any : Bool) (s : ByteArray) (i : Nat) (r : Rul) : List Ln:=
 if 0 < r.f0.length∧(any = true∨¬ n ∈ r.f0) then [] else az1 r (ah9 s i) (ah9 s i ++ bZ) ++ [ag2 (ah9 s i ++ bZ)]
def ag1 (c d : Int) (l : List Rul) (n : Int) (any : Bool) (s : ByteArray) : List Ln:=S1 (aM2 n any s) 0 l ++ [at0 8 (bz1 c d)]
def PlR (l : List Rul) : Prop:=l.length≤10∧∀ r ∈ l,r.f0.length≤4∧r.f1.length≤3
theorem bC8 {a c d : Int} {l : List Rul} (h : ap5 a c d l = true) : PlR l:=by
 unfold ap5 at6 at h
 simp only [Bool.and_eq_true,decide_eq_true_eq,List.all_eq_true] at h
 refine ⟨h.2.2.2,fun r hr=>?_⟩
 have:=h.1 r hr
 unfold an2 aw0 at this
 simp only [Bool.and_eq_true,decide_eq_true_eq] at this
 exact ⟨this.2.2.1,this.2.2.2.1⟩
theorem bd1 (n : Int) (any : Bool) (s : ByteArray) (i : Nat) (r : Rul) (hr : r.f1.length≤3) : (aM2 n any s i r).length≤32:=by
 unfold aM2
 split
 ·exact Nat.zero_le _
 ·have:=bc4 r (ah9 s i) (ah9 s i ++ bZ)
  rw [List.length_append,List.length_singleton];omega
theorem bT4 (s : ByteArray) (i : Nat) (h : i < 20) : s ++ strOfNums [IntKind.u8.wrap (wrap64 (97 + (i : Int)))] = ah9 s i:=by
 rw [m7 (by omega) (by omega),IntKind.wrap_u8,show (97 + (i : Int)) % 256 = 97 + (i : Int) by omega];rfl
theorem bF6 (s : ByteArray) (i : Nat) : (ah9 s i).size = s.size + 1:=by unfold ah9;rw [ByteArray.size_append,strOfNums_size];rfl
def aA3 (n : Int) : List Int→List Int
 | []=>[n]
 | x :: r=>if n < x then n :: x :: r else x :: aA3 n r
theorem aP5 (n : Int) : ∀ (l : List Int) (y : Int),y ∈ aA3 n l↔y = n∨y ∈ l
 | [],y=>by simp [aA3]
 | x :: r,y=>by
  unfold aA3
  split
  ·simp
  ·rw [List.mem_cons,aP5 n r,List.mem_cons]
   constructor
   ·rintro (h | h | h)
    ·exact .inr (.inl h)
    ·exact .inl h
    ·exact .inr (.inr h)
   ·rintro (h | h | h)
    ·exact .inr (.inl h)
    ·exact .inl h
    ·exact .inr (.inr h)
theorem aO5 (n : Int) : ∀ l : List Int,(aA3 n l).length = l.length + 1
 | []=>rfl
 | x :: r=>by
  unfold aA3
  split
  ·rfl
  ·simp [aO5 n r]
theorem aO3 (n : Int) : ∀ (l : List Int),l.Pairwise (· < ·)→n ∉ l→(aA3 n l).Pairwise (· < ·)
 | [],_,_=>by simp [aA3]
 | x :: r,h,hn=>by
  rw [List.pairwise_cons] at h
  unfold aA3
  split
  ·next hlt=>
   rw [List.pairwise_cons,List.pairwise_cons]
   exact ⟨fun y hy=>by rcases List.mem_cons.1 hy with rfl | hy;exact hlt;have:=h.1 y hy;omega,h⟩
  ·next hge=>
   rw [List.pairwise_cons]
   refine ⟨fun y hy=>?_,aO3 n r h.2 (fun hm=>hn (List.mem_cons_of_mem _ hm))⟩
   rcases (aP5 n r y).1 hy with rfl | hy
   ·have : y≠x:=fun e=>hn (by rw [e];exact List.mem_cons_self)
    omega
   ·exact h.1 y hy
def Z6 (out : List Int) (n : Int) : List Int:=if n ∈ out then out else aA3 n out
theorem bc0 : ∀ (a b : List Int),a.Pairwise (· < ·)→b.Pairwise (· < ·)→(∀ x,x ∈ a↔x ∈ b)→a = b
 | [],[],_,_,_=>rfl
 | [],y :: b,_,_,h=>by have:=(h y).2 List.mem_cons_self;simp at this
 | x :: a,[],_,_,h=>by have:=(h x).1 List.mem_cons_self;simp at this
 | x :: a,y :: b,ha,hb,h=>by
  rw [List.pairwise_cons] at ha hb
  have hxy : x = y:=by
   have h1:=(h x).1 List.mem_cons_self
   have h2:=(h y).2 List.mem_cons_self
   rcases List.mem_cons.1 h1 with h1 | h1
   ·exact h1
   ·rcases List.mem_cons.1 h2 with h2 | h2
    ·exact h2.symm
    ·have:=hb.1 x h1;have:=ha.1 y h2;omega
  subst hxy
  refine congrArg _ (bc0 a b ha.2 hb.2 fun z=>?_)
  constructor
  ·intro hz
   have:=ha.1 z hz
   rcases List.mem_cons.1 ((h z).1 (List.mem_cons_of_mem _ hz)) with rfl | hz'
   ·omega
   ·exact hz'
  ·intro hz
   have:=hb.1 z hz
   rcases List.mem_cons.1 ((h z).2 (List.mem_cons_of_mem _ hz)) with rfl | hz'
   ·omega
   ·exact hz'
theorem bj5 : ∀ (ks out : List Int),out.Pairwise (· < ·)→(ks.foldl Z6 out).Pairwise (· < ·)∧∀ x,x ∈ ks.foldl Z6 out↔x ∈ ks∨x ∈ out
 | [],out,h=>⟨h,fun x=>by simp⟩
 | k :: ks,out,h=>by
  have h1 : (Z6 out k).Pairwise (· < ·)∧∀ x,x ∈ Z6 out k↔x = k∨x ∈ out:=by
   unfold Z6
   split
   ·next hk=>exact ⟨h,fun x=>⟨.inr,fun hx=>by rcases hx with rfl | hx;exact hk;exact hx⟩⟩
   ·next hk=>exact ⟨aO3 k out h hk,aP5 k out⟩
  obtain ⟨h2,h3⟩:=bj5 ks (Z6 out k) h1.1
  refine ⟨h2,fun x=>?_⟩
  show x ∈ ks.foldl Z6 (Z6 out k)↔_
  rw [h3,h1.2,List.mem_cons]
  constructor
  ·rintro (h | h | h)
   ·exact .inl (.inr h)
   ·exact .inl (.inl h)
   ·exact .inr h
  ·rintro ((h | h) | h)
   ·exact .inr (.inl h)
   ·exact .inl h
   ·exact .inr (.inr h)
theorem aX8 (l : List Int) (h : l.Pairwise (·≤·)) : (Go.Lib.compact l).Pairwise (· < ·)∧∀ x,x ∈ Go.Lib.compact l↔x ∈ l:=by
 have get : ∀ j,(hj : j < l.length)→l.toArray[j]! = l[j]:=fun j hj=>by simp [hj]
 have key : ∀ m,m≤l.length→(Go.Lib.compactUpTo l.toArray m).Pairwise (· < ·)∧∀ x,x ∈ Go.Lib.compactUpTo l.toArray m↔∃ j,∃ hj : j < l.length,j < m∧l[j] = x:=by
  intro m
  induction m with
  | zero=>intro _;exact ⟨by simp [Go.Lib.compactUpTo],fun x=>by simp [Go.Lib.compactUpTo]⟩
  | succ m ih=>
   intro hm
   obtain ⟨h1,h2⟩:=ih (by omega)
   have hml : m < l.length:=by omega
   rw [Go.Lib.compactUpTo_succ,get m hml]
   have hk : Go.Lib.keeps l.toArray m = decide (m = 0∨l[m]≠l.toArray[m - 1]!):=by unfold Go.Lib.keeps;rw [get m hml]
   by_cases hc : m = 0∨l[m]≠l.toArray[m - 1]!
   ·rw [hk,decide_eq_true hc,if_pos rfl]
    constructor
    ·rw [List.pairwise_append]
     refine ⟨h1,List.pairwise_singleton _ _,fun x hx y hy=>?_⟩
     rw [List.mem_singleton] at hy
     subst hy
     obtain ⟨j,hj,hjm,rfl⟩:=(h2 x).1 hx
     rcases hc with hc | hc
     ·omega
     ·rw [get (m - 1) (by omega)] at hc
      have e1 : l[m - 1]≤l[m]:=List.pairwise_iff_getElem.1 h (m - 1) m (by omega) hml (by omega)
      have e2 : l[j]≤l[m - 1]:=by
       by_cases hjm' : j = m - 1
       ·subst hjm';exact Int.le_refl _
       ·exact List.pairwise_iff_getElem.1 h j (m - 1) hj (by omega) (by omega)
      omega
    ·intro x
     rw [List.mem_append,h2,List.mem_singleton]
     constructor
     ·rintro (⟨j,hj,hjm,e⟩ | rfl)
      ·exact ⟨j,hj,by omega,e⟩
      ·exact ⟨m,hml,by omega,rfl⟩
     ·rintro ⟨j,hj,hjm,e⟩
      by_cases hjm' : j = m
      ·subst hjm';exact .inr e.symm
      ·exact .inl ⟨j,hj,by omega,e⟩
   ·rw [hk,decide_eq_false hc,if_neg (by simp),List.append_nil]
    refine ⟨h1,fun x=>?_⟩
    rw [h2]
    have hc1 : m≠0:=fun e=>hc (.inl e)
    have hc2 : l[m] = l[m - 1]:=by
     have h3 : l[m] = l.toArray[m - 1]!:=Classical.byContradiction fun e=>hc (.inr e)
     rw [get (m - 1) (by omega)] at h3
     exact h3
    constructor
    ·rintro ⟨j,hj,hjm,e⟩;exact ⟨j,hj,by omega,e⟩
    ·rintro ⟨j,hj,hjm,e⟩
     by_cases hjm' : j = m
     ·subst hjm';exact ⟨j - 1,by omega,by omega,by rw [← hc2];exact e⟩
     ·exact ⟨j,hj,by omega,e⟩
 obtain ⟨h1,h2⟩:=key l.length (Nat.le_refl _)
 refine ⟨h1,fun x=>(h2 x).trans ?_⟩
 constructor
 ·rintro ⟨j,hj,_,rfl⟩;exact List.getElem_mem _
 ·intro hx
  obtain ⟨j,hj,rfl⟩:=List.getElem_of_mem hx
  exact ⟨j,hj,hj,rfl⟩
theorem bo3 (ks : List Int) : Go.Lib.compact (ks.mergeSort fun x y=>decide (x≤y)) = ks.foldl Z6 []:=by
 have hs : (ks.mergeSort fun x y=>decide (x≤y)).Pairwise (·≤·):=by
  have:=List.pairwise_mergeSort (le:=fun x y : Int=>decide (x≤y)) (fun a b c h1 h2=>by simp at h1 h2 ⊢;omega) (fun a b=>by simp;omega) ks
  exact this.imp (fun h=>by simpa using h)
 obtain ⟨h1,h2⟩:=aX8 _ hs
 obtain ⟨h3,h4⟩:=bj5 ks [] List.Pairwise.nil
 refine bc0 _ _ h1 h3 fun x=>?_
 rw [h2,h4,List.mem_mergeSort]
 simp
theorem ay0 : ∀ (ks out : List Int),(ks.foldl Z6 out).length≤out.length + ks.length
 | [],out=>by simp
 | k :: ks,out=>by
  show (ks.foldl Z6 (Z6 out k)).length≤_
  have h1:=ay0 ks (Z6 out k)
  have h2 : (Z6 out k).length≤out.length + 1:=by unfold Z6;split;omega;rw [aO5];omega
  simp only [List.length_cons];omega
theorem aD0 {l : List Rul} (hl : PlR l) (c d n : Int) (any : Bool) (s : ByteArray) : (ag1 c d l n any s).length≤321:=by
 have:=ay1 (aM2 n any s) 32 l 0 (fun i x hx=>bd1 n any s i x (hl.2 x hx).2)
 have:=hl.1
 unfold ag1;rw [List.length_append,List.length_singleton];omega
theorem aQ4 (l : List Int) (n : Int) (hl : l.length≤1000) : Ev (fun k=>L7.f k l n) (decide (n ∈ l)):=by
 unfold L7.f B3.f
 have:=aL7 (fun k i=>B3.l0 k l n i) l (fun x=>decide (n = x)) (fun j=>(j : Int)) (-1) ?_ ?_ ?_
 ·refine Ev.bind this (Ev.some_ ?_)
  rw [bG6,Bool.eq_iff_iff];simp
 ·refine Ev.step (fun _=>rfl) ?_
  simp only [B3.l0]
  exact Ev.neg (by omega) (Ev.now _)
 ·intro j m hm hp
  have hj:=G7 hm
  refine Ev.step (fun _=>rfl) ?_
  simp only [B3.l0,aJ8 hm]
  exact Ev.pos (by omega) (Ev.pos (by omega) (Ev.pos (by simpa using hp) (Ev.now _)))
 ·intro j m r hm hp hr
  have hj:=G7 hm
  refine Ev.step (fun _=>rfl) ?_
  simp only [B3.l0,aJ8 hm]
  rw [m7 (x:=(j : Int) + 1) (by omega) (by omega)]
  exact Ev.pos (by omega) (Ev.pos (by omega) (Ev.neg (by simpa using hp) hr))
theorem ac4 (a c d : Int) {l : List Rul} (hl : PlR l) (n : Int) (any : Bool) (s : ByteArray) (h : s.size≤800000) : Ev (fun k=>r9.f k a c d l n any s) (ag1 c d l n any s):=by
 have h10:=hl.1
 unfold r9.f ag1
 refine bu0 (fun k q i=>r9.l0 k a c d l n any s q i) l (aM2 n any s) 32 _ (fun i x hx=>bd1 n any s i x (hl.2 x hx).2) ?_ ?_
 ·intro q hq
  refine Ev.step (fun _=>rfl) ?_
  simp only [r9.l0,G1.f]
  exact Ev.neg (by omega) (Ev.bindc (aw7 _ _) (Ev.bindc rfl (Ev.pos (by simp;omega) (Ev.now _))))
 ·intro i x q r hx hq hr
  have hi:=G7 hx
  have hf:=hl.2 x (List.mem_of_getElem? hx)
  have hz:=bF6 s i
  have hrl:=bc4 x (ah9 s i) (ah9 s i ++ bZ)
  refine Ev.step (fun _=>rfl) ?_
  simp only [r9.l0,aL0 hx]
  refine Ev.pos (by omega) (Ev.pos (by omega) (Ev.neg (by omega) ?_))
  unfold aM2 at hr
  have take : Ev (fun k=>r9.l0 k a c d l n any s (q ++ (az1 x (ah9 s i) (ah9 s i ++ bZ) ++ [ag2 (ah9 s i ++ bZ)])) ((i : Int) + 1)) r→Ev (fun k=>r9.j0 k a c d l n any s q (i : Int)) r:=by
   intro hr
   refine Ev.step (fun _=>rfl) ?_
   simp only [r9.j0,aL0 hx,bsz,A0.f]
   rw [bT4 s i (by omega),m7 (x:=(i : Int) + 1) (by omega) (by omega)]
   refine Ev.pos (by rw [strOfNums_size];simp;omega) (Ev.pos (by omega) (Ev.bind (aN6 x _ _ hf.2 (by omega)) (Ev.pos ?_ (Ev.bindc rfl (Ev.pos ?_ ?_)))))
   ·show q.length + (az1 x (ah9 s i) (ah9 s i ++ bZ)).length < _;omega
   ·show (q ++ az1 x (ah9 s i) (ah9 s i ++ bZ)).length + _ < _;rw [List.length_append,List.length_singleton];omega
   ·rw [← List.append_assoc] at hr
    exact hr
  have skip : Ev (fun k=>r9.l0 k a c d l n any s (q ++ []) ((i : Int) + 1)) r→Ev (fun k=>r9.l0 k a c d l n any s q (wrap64 ((i : Int) + 1))) r:=by
   intro hr
   rw [m7 (by omega) (by omega)]
   rwa [List.append_nil] at hr
  by_cases h0 : 0 < x.f0.length
  ·refine Ev.pos (by omega) ?_
   cases any with
   | true=>rw [if_pos ⟨h0,.inl rfl⟩] at hr;exact Ev.pos (by trivial) (skip hr)
   | false=>
    refine Ev.neg (by simp) (Ev.bind (aQ4 x.f0 n (by omega)) ?_)
    by_cases hm : n ∈ x.f0
    ·rw [if_neg (by simp [hm])] at hr;exact Ev.pos (by simpa using hm) (take hr)
    ·rw [if_pos ⟨h0,.inr hm⟩] at hr;exact Ev.neg (by simpa using hm) (skip hr)
  ·rw [if_neg (fun h=>h0 h.1)] at hr
   exact Ev.neg (by omega) (take hr)
def bY : ByteArray:=⟨#[121]⟩
def bX : ByteArray:=⟨#[120]⟩
def bH : ByteArray:=⟨#[104]⟩
def bL : ByteArray:=⟨#[108]⟩
def ay2 (c d : Int) (l : List Rul) : Nat→List Int→ByteArray→List Ln
 | 0,_,s=>ag1 c d l 0 true s
 | m + 1,ns,s=>
  if ns.length = 0 then ag1 c d l 0 true s
  else if ns.length = 1 then (([aJ3 3 (ns.getD 0 0) (s ++ bY) (s ++ bX),ag2 (s ++ bY)] ++ ag1 c d l (ns.getD 0 0) false (s ++ bY)) ++ [ag2 (s ++ bX)]) ++ ag1 c d l 0 true (s ++ bX)
  else (([aJ3 5 (ns.getD (ns.length / 2) 0) (s ++ bH) (s ++ bL),ag2 (s ++ bL)] ++ ay2 c d l m (ns.take (ns.length / 2)) (s ++ bL)) ++ [ag2 (s ++ bH)]) ++ ay2 c d l m (ns.drop (ns.length / 2)) (s ++ bH)
theorem al8 (c d : Int) {l : List Rul} (hl : PlR l) : ∀ (m : Nat) (ns : List Int) (s : ByteArray),ns.length≤m→(ay2 c d l m ns s).length + 10≤700 * max ns.length 1
 | 0,ns,s,h=>by
  have:=aD0 hl c d 0 true s
  unfold ay2;omega
 | m + 1,ns,s,h=>by
  have h1:=aD0 hl c d
  unfold ay2
  split
  ·have:=h1 0 true s;omega
  ·split
   ·have e1:=h1 (ns.getD 0 0) false (s ++ bY);have e2:=h1 0 true (s ++ bX)
    simp only [List.length_append,List.length_cons,List.length_nil];omega
   ·have e1:=al8 c d hl m (ns.take (ns.length / 2)) (s ++ bL) (by rw [List.length_take];omega)
    have e2:=al8 c d hl m (ns.drop (ns.length / 2)) (s ++ bH) (by rw [List.length_drop];omega)
    rw [List.length_take] at e1
    rw [List.length_drop] at e2
    simp only [List.length_append,List.length_cons,List.length_nil];omega
theorem ar3 (l : List Int) (i : Nat) : rd l (i : Int) = l.getD i 0:=by unfold rd;rw [Int.toNat_natCast]
theorem aO0 (a c d : Int) {l : List Rul} (hl : PlR l) : ∀ (m : Nat) (ns : List Int) (s : ByteArray),ns.length≤m→m≤100000→s.size + m≤700000→Ev (fun k=>N9.f k a c d l ns s) (ay2 c d l m ns s):=by
 intro m
 induction m with
 | zero=>
  intro ns s hn hm hs
  refine Ev.step (fun _=>rfl) ?_
  simp only [N9.f]
  exact Ev.pos (by omega) (Ev.bind (ac4 a c d hl 0 true s (by omega)) (Ev.now _))
 | succ m ih=>
  intro ns s hn hm hs
  refine Ev.step (fun _=>rfl) ?_
  simp only [N9.f,H1.f,A0.f,bsz]
  have hc:=aD0 hl c d
  unfold ay2
  by_cases h0 : ns.length = 0
  ·rw [if_pos h0]
   exact Ev.pos (by omega) (Ev.bind (ac4 a c d hl 0 true s (by omega)) (Ev.now _))
  rw [if_neg h0];refine Ev.neg (by omega) ?_
  have z : ∀ x : UInt8,(s ++ (⟨#[x]⟩ : ByteArray)).size = s.size + 1:=fun x=>by rw [ByteArray.size_append,bsz]
  by_cases h1 : ns.length = 1
  ·rw [if_pos h1]
   refine Ev.pos (by omega) (Ev.pos (by omega) (Ev.pos (by omega) (Ev.pos (by omega) (Ev.bindc rfl (Ev.bindc rfl ?_)))))
   rw [show rd ns 0 = ns.getD 0 0 from ar3 ns 0]
   have e1:=hc (ns.getD 0 0) false (s ++ bY);have e2:=hc 0 true (s ++ bX)
   refine Ev.bind (ac4 a c d hl _ false _ (by rw [z];omega)) (Ev.pos ?_ (Ev.bindc rfl (Ev.pos ?_ (Ev.bind (ac4 a c d hl 0 true _ (by rw [z];omega)) (Ev.pos ?_ (Ev.now _))))))
   ·show _ + (ag1 c d l (ns.getD 0 0) false (s ++ bY)).length < _;simp only [List.length_cons,List.length_nil];omega
   ·show (_ ++ ag1 c d l (ns.getD 0 0) false (s ++ bY)).length + _ < _;simp only [List.length_append,List.length_cons,List.length_nil];omega
   ·show ((_ ++ ag1 c d l (ns.getD 0 0) false (s ++ bY)) ++ _).length + (ag1 c d l 0 true (s ++ bX)).length < _;simp only [List.length_append,List.length_cons,List.length_nil];omega
  rw [if_neg h1];refine Ev.neg (by omega) ?_
  rw [show wrap64 ((ns.length : Int).tdiv 2) = ((ns.length / 2 : Nat) : Int) by rw [Int.tdiv_eq_ediv_of_nonneg (by omega),m7 (by omega) (by omega)];omega,Int.toNat_natCast,ar3]
  have l1:=al8 c d hl m (ns.take (ns.length / 2)) (s ++ bL) (by rw [List.length_take];omega)
  have l2:=al8 c d hl m (ns.drop (ns.length / 2)) (s ++ bH) (by rw [List.length_drop];omega)
  rw [List.length_take] at l1
  rw [List.length_drop] at l2
  have i1:=ih (ns.take (ns.length / 2)) (s ++ bL) (by rw [List.length_take];omega) (by omega) (by rw [show (s ++ bL).size = s.size + 1 from z _];omega)
  have i2:=ih (ns.drop (ns.length / 2)) (s ++ bH) (by rw [List.length_drop];omega) (by omega) (by rw [show (s ++ bH).size = s.size + 1 from z _];omega)
  refine Ev.pos (by omega) (Ev.pos (by omega) (Ev.pos (by omega) (Ev.pos (by omega) (Ev.bindc rfl (Ev.bindc rfl (Ev.pos (by omega) ?_))))))
  rw [show (⟨#[108]⟩ : ByteArray) = bL from rfl,show (⟨#[104]⟩ : ByteArray) = bH from rfl]
  refine Ev.bind i1 (Ev.pos ?_ (Ev.bindc rfl (Ev.pos ?_ (Ev.bind i2 (Ev.pos ?_ (Ev.now _))))))
  all_goals (simp only [List.length_append,List.length_cons,List.length_nil];omega)
def ay9 (l : List Rul) : List Int:=(l.flatMap fun r=>r.f0).foldl Z6 []
theorem an6 {l : List Rul} (hl : PlR l) : (l.flatMap fun r=>r.f0).length≤40:=by
 have : ∀ q : List Rul,(∀ r ∈ q,r.f0.length≤4)→(q.flatMap fun r=>r.f0).length≤4 * q.length:=by
  intro q
  induction q with
  | nil=>intro _;simp
  | cons x r ih=>
   intro h
   have h1:=h x (List.mem_cons_self ..)
   have h2:=ih (fun y hy=>h y (List.mem_cons_of_mem _ hy))
   rw [List.flatMap_cons,List.length_append,List.length_cons];omega
 have h1:=this l (fun r hr=>(hl.2 r hr).1)
 have h2:=hl.1
 omega
theorem ay3 {l : List Rul} (hl : PlR l) : (ay9 l).length≤40:=by
 have:=ay0 (l.flatMap fun r=>r.f0) []
 have:=an6 hl
 unfold ay9;simp at *;omega
theorem aZ0 (a c d : Int) {l : List Rul} (hl : PlR l) : Ev (fun k=>M7.f k a c d l) (ay9 l):=by
 have h10:=hl.1
 unfold M7.f
 have key : ∀ (m i : Nat) (q : List Int),l.length - i = m→i≤l.length→q = ((l.take i).flatMap fun r=>r.f0)→Ev (fun k=>M7.l0 k l q (i : Int)) (ay9 l):=by
  intro m
  induction m with
  | zero=>
   intro i q hd hi hq
   rw [show i = l.length by omega,List.take_length] at hq
   have hf:=an6 hl
   refine Ev.step (fun _=>rfl) ?_
   simp only [M7.l0]
   refine Ev.neg (by omega) (Ev.bindc (x:=srt q) ?_ (Ev.bindc (x:=ay9 l) ?_ (Ev.now _)))
   ·unfold K9.f;rw [if_pos (by rw [hq];omega)];rfl
   ·unfold P2.f srt
    rw [List.length_mergeSort,if_pos (by rw [hq];omega),bo3,hq];rfl
  | succ m ih=>
   intro i q hd hi hq
   have hlt : i < l.length:=by omega
   have hx : l[i]? = some l[i]:=List.getElem?_eq_getElem hlt
   have hf:=an6 hl
   have hm:=(hl.2 _ (List.getElem_mem hlt)).1
   have hql : q.length≤40:=by
    have e : l.flatMap (fun r=>r.f0) = (l.take i).flatMap (fun r=>r.f0) ++ (l.drop i).flatMap (fun r=>r.f0):=by rw [← List.flatMap_append,List.take_append_drop]
    rw [e,List.length_append] at hf
    rw [hq];omega
   refine Ev.step (fun _=>rfl) ?_
   simp only [M7.l0,aL0 hx]
   rw [m7 (x:=(i : Int) + 1) (by omega) (by omega)]
   refine Ev.pos (by omega) (Ev.pos (by omega) (Ev.pos (by omega) (ih (i + 1) _ (by omega) (by omega) ?_)))
   rw [List.take_add_one,hx,List.flatMap_append,hq]
   simp
 exact key l.length 0 [] rfl (Nat.zero_le _) (by simp)
def bO3 (a : Int) : List Ln:=[at0 1 1,aJ3 3 a ⟨#[112]⟩ ⟨#[113]⟩,ag2 ⟨#[113]⟩,at0 8 0,ag2 ⟨#[112]⟩,at0 1 0]
def ar2 (a c d : Int) (l : List Rul) : List Ln:=bO3 a ++ ay2 c d l 40 (ay9 l) ⟨#[116]⟩
theorem by6 (a c d : Int) {l : List Rul} (hl : PlR l) : (ar2 a c d l).length≤30000:=by
 have h1:=al8 c d hl 40 (ay9 l) ⟨#[116]⟩ (ay3 hl)
 have h2:=ay3 hl
 have h3 : (bO3 a).length = 6:=rfl
 unfold ar2;rw [List.length_append];omega
theorem aG5 (a c d : Int) {l : List Rul} (hl : PlR l) : Ev (fun k=>S4.f k a c d l) (ar2 a c d l):=by
 have h1:=al8 c d hl 40 (ay9 l) ⟨#[116]⟩ (ay3 hl)
 have h2:=ay3 hl
 unfold S4.f
 simp only [G1.f,H1.f,A0.f]
 refine Ev.bindc rfl (Ev.bindc rfl (Ev.bindc rfl (Ev.bindc rfl (Ev.bindc rfl (Ev.bindc rfl (Ev.bind (aZ0 a c d hl) (Ev.bind (aO0 a c d hl 40 _ _ h2 (by omega) (by decide)) (Ev.pos ?_ (Ev.now _)))))))))
 simp only [List.length_cons,List.length_nil];omega
end Go.Proofs.YtahmbcgolnplgaaGreat.PFnNoHoles
namespace Go.Proofs.YtahmbcgolnplgaaGreat.PFnNoHoles
open Go Go.RowKit Go.Proofs.YtahmbcgolnplgaaGreatA Go.Proofs.YtahmbcgolnplgaaGreatL
theorem aj3 (x lo hi : Int) : j8.f x lo hi = some (decide (lo≤x∧x≤hi)):=M2 x lo hi
def ak3 (x : f9) : Bool:=decide ((1≤x.f0∧x.f0≤8)∧(0≤x.f1∧x.f1≤4294967295)∧(0≤x.f2∧x.f2≤15)∧(0≤x.f3∧x.f3≤15)∧((3≤x.f0∧x.f0≤6)∨(x.f2 = 0∧x.f3 = 0))∧(x.f0 = 1→x.f1 < 8)∧(x.f0 = 7→x.f1 < 400))
theorem as1 (x : f9) : aa0.f x.f0 x.f1 x.f2 x.f3 = some (ak3 x):=by
 simp only [aa0.f,x9.f,y7.f,aj3,Option.bind_some,aE3,decide_eq_true_eq]
 congr 1;rw [Bool.eq_iff_iff];unfold ak3
 rw [decide_eq_true_eq]
 by_cases h5 : 3≤x.f0∧x.f0≤6
 ·have e1 : ¬ x.f0 = 1:=by omega
  have e7 : ¬ x.f0 = 7:=by omega
  have e8 : 1≤x.f0∧x.f0≤8:=by omega
  by_cases h2 : 0≤x.f1∧x.f1≤4294967295
  ·by_cases h3 : 0≤x.f2∧x.f2≤15
   ·simp [h5,h2,h3,e1,e7,e8]
   ·simp [h5,h2,h3]
  ·simp [h5,h2]
 ·by_cases h6 : x.f2 = 0
  ·by_cases h7 : x.f3 = 0
   ·by_cases e1 : x.f0 = 1
    ·simp [h6,h7,e1];omega
    ·by_cases e7 : x.f0 = 7
     ·simp [h6,h7,e7];omega
     ·by_cases e2 : x.f0 = 2
      ·simp [h6,h7,e2]
      ·by_cases e8 : x.f0 = 8
       ·simp [h6,h7,e8]
       ·have : ¬ (1≤x.f0∧x.f0≤8):=by omega
        simp [h5,h6,h7,e1,e2,e7,e8,this]
   ·simp [h5,h6,h7]
  ·simp [h5,h6]
theorem ai1 {x : f9} (h : ak3 x = true) : (1≤x.f0∧x.f0≤8)∧(0≤x.f1∧x.f1≤4294967295)∧(0≤x.f2∧x.f2≤15)∧(0≤x.f3∧x.f3≤15)∧((3≤x.f0∧x.f0≤6)∨(x.f2 = 0∧x.f3 = 0))∧(x.f0 = 1→x.f1 < 8)∧(x.f0 = 7→x.f1 < 400):=of_decide_eq_true h
def aG9 (x : f9) : Int:=if 3≤x.f0∧x.f0≤6 then 1 + max x.f2 x.f3 else if x.f0 = 7 then 1 + x.f1 else if x.f0 = 8 then 0 else 1
def aC1 (l : List f9) : Bool:=(l.getD (l.length - 1) R6).f0 == 8
def aT4 (n : Nat) (i : Nat) (x : f9) : Bool:=ak3 x && decide ((i : Int) + aG9 x < n)
def chk (l : List f9) : Bool:=decide (1≤l.length∧l.length≤400) && (T8 (aT4 l.length) 0 l && aC1 l)
def aC2 (n : Nat) (i : Nat) (x : f9) : Bool:=ak3 x && decide ((i : Int) + (if 3≤x.f0∧x.f0≤6 then 1 + max x.f2 x.f3 else if x.f0 = 7 then 1 + x.f1 else 0) < n)
theorem ax4 (x : f9) (i n : Nat) (hn : n≤400) (hi : i < n) (h : ak3 x = true) : X9.f x.f0 x.f1 x.f2 x.f3 (i : Int) = some ((i : Int) + (if 3≤x.f0∧x.f0≤6 then 1 + max x.f2 x.f3 else if x.f0 = 7 then 1 + x.f1 else 0)):=by
 have hx5:=ai1 h
 unfold X9.f y7.f
 simp only [aj3,Option.bind_some,decide_eq_true_eq]
 by_cases ha : 3≤x.f0∧x.f0≤6
 ·rw [if_pos ha,if_pos ha,m7 (x:=(i : Int) + 1) (by omega) (by omega),m7 (by omega) (by omega)]
  congr 1;omega
 ·rw [if_neg ha,if_neg ha]
  by_cases h7 : x.f0 = 7
  ·rw [if_pos h7,if_pos h7,m7 (x:=(i : Int) + 1) (by omega) (by omega),m7 (by omega) (by omega)]
   congr 1;omega
  ·rw [if_neg h7,if_neg h7]
   rw [Int.add_zero]
theorem Q6 (l : List f9) (hn : l.length≤1048576) : Ev (fun k=>u9.f k l) (chk l):=by
 unfold u9.f chk
 rw [aj3]
 refine Ev.bindc rfl ?_
 by_cases h : 1≤l.length∧l.length≤400
 ·refine Ev.pos (by simp;omega) ?_
  rw [decide_eq_true h,Bool.true_and,m7 (by omega) (by omega)]
  refine Ev.pos (by omega) (Ev.pos (by omega) ?_)
  rw [show m8 l ((l.length : Int) - 1) = l.getD (l.length - 1) R6 by unfold m8;rw [show ((l.length : Int) - 1).toNat = l.length - 1 by omega]]
  cases hr : aC1 l with
  | false=>
   unfold aC1 at hr
   rw [Bool.and_false]
   refine Ev.neg (by simpa using hr) (Ev.now _)
  | true=>
   have hr':=hr
   unfold aC1 at hr
   refine Ev.pos (by simpa using hr) ?_
   have hcongr : T8 (aT4 l.length) 0 l = T8 (aC2 l.length) 0 l:=by
    refine aV6 l 0 fun j x hx=>?_
    have hj:=G7 hx
    unfold aT4 aC2
    cases hio : ak3 x with
    | false=>simp
    | true=>
     have hx5:=ai1 hio
     simp only [Bool.true_and]
     rw [Bool.eq_iff_iff,decide_eq_true_eq,decide_eq_true_eq]
     unfold aG9
     by_cases ha : 3≤x.f0∧x.f0≤6
     ·rw [if_pos ha,if_pos ha]
     ·rw [if_neg ha,if_neg ha]
      by_cases h7 : x.f0 = 7
      ·rw [if_pos h7,if_pos h7]
      ·rw [if_neg h7,if_neg h7]
       by_cases h8 : x.f0 = 8
       ·rw [if_pos h8]
       ·rw [if_neg h8]
        have : j≠l.length - 1:=by
         intro e
         apply h8
         rw [← e,J8 l R6 hx] at hr
         simpa using hr
        constructor <;> intro _ <;> omega
   rw [hcongr]
   refine aL9 (fun k i=>u9.l0 k l i) l (aC2 l.length) true ?_ ?_ ?_
   ·refine Ev.step (f:=fun _=>some true) (fun k=>?_) (Ev.now _)
    simp only [u9.l0];rw [if_neg (by omega)]
   ·intro i x hx hp
    have hi:=G7 hx
    unfold aC2 at hp
    refine Ev.step (fun _=>rfl) ?_
    simp only [u9.l0]
    rw [by2 hx]
    refine Ev.pos (by omega) (Ev.pos (by omega) (Ev.bindc (as1 x) ?_))
    cases hio : ak3 x with
    | false=>exact Ev.neg (by simp) (Ev.now _)
    | true=>
     rw [hio,Bool.true_and] at hp
     have hp':=of_decide_eq_false hp
     refine Ev.pos rfl (Ev.bindc (ax4 x i l.length (by omega) hi hio) ?_)
     exact Ev.pos (by omega) (Ev.now _)
   ·intro i x r hx hp hr
    have hi:=G7 hx
    unfold aC2 at hp
    rw [Bool.and_eq_true] at hp
    obtain ⟨hio,hp⟩:=hp
    have hp':=of_decide_eq_true hp
    refine Ev.step (fun _=>rfl) ?_
    simp only [u9.l0]
    rw [by2 hx,m7 (x:=(i : Int) + 1) (by omega) (by omega)]
    refine Ev.pos (by omega) (Ev.pos (by omega) (Ev.bindc (as1 x) ?_))
    rw [hio]
    refine Ev.pos rfl (Ev.bindc (ax4 x i l.length (by omega) hi hio) ?_)
    exact Ev.neg (by omega) hr
 ·refine Ev.neg (by simp;omega) ?_
  rw [decide_eq_false h,Bool.false_and];exact Ev.now _
theorem ag0 {l : List f9} (h : chk l = true) : (1≤l.length∧l.length≤400)∧aC1 l = true∧∀ (i : Nat) x,l[i]? = some x→ak3 x = true∧(i : Int) + aG9 x < l.length:=by
 unfold chk at h
 rw [Bool.and_eq_true,Bool.and_eq_true] at h
 refine ⟨of_decide_eq_true h.1,h.2.2,fun i x hx=>?_⟩
 have:=aI4 l 0 h.2.1 i x hx
 unfold aT4 at this
 rw [Bool.and_eq_true] at this
 exact ⟨this.1,by have:=of_decide_eq_true this.2;simpa using this⟩
def ay7 (x : f9) (i : Int) : List Int:=
 if x.f0 = 8 then [] else if x.f0 = 7 then [i + 1 + x.f1] else if 3≤x.f0∧x.f0≤6 then (if x.f2 = x.f3 then [i + 1 + x.f2] else [i + 1 + min x.f2 x.f3,i + 1 + max x.f2 x.f3]) else [i + 1]
theorem bo2 (i : Nat) (x : f9) (hi : i < 400) (hio : ak3 x = true) : Ev (fun k=>S6.f k x.f0 x.f1 x.f2 x.f3 (i : Int)) (ay7 x i):=by
 have hx5:=ai1 hio
 refine ⟨1,fun k hk=>?_⟩
 obtain ⟨k,rfl⟩ : ∃ m,k = m + 1:=⟨k - 1,by omega⟩
 unfold S6.f ay7
 simp only [S6.j0,y7.f,aj3,Option.bind_some,decide_eq_true_eq]
 rw [m7 (x:=(i : Int) + 1) (by omega) (by omega)]
 by_cases h8 : x.f0 = 8
 ·rw [if_pos h8,if_pos h8]
 ·rw [if_neg h8,if_neg h8]
  by_cases h7 : x.f0 = 7
  ·rw [if_pos h7,if_pos h7,m7 (by omega) (by omega)]
  ·rw [if_neg h7,if_neg h7]
   by_cases ha : 3≤x.f0∧x.f0≤6
   ·rw [if_pos ha,if_pos ha]
    by_cases he : x.f2 = x.f3
    ·rw [if_neg (by simp [he]),if_pos ha,if_pos he,m7 (by omega) (by omega)]
    ·rw [if_pos (by simp [he]),if_neg he,m7 (by omega) (by omega),m7 (by omega) (by omega)]
     (try rw [if_pos ha])
   ·rw [if_neg ha,if_neg ha,if_neg (by simp),if_neg ha]
theorem Ev.andc {c : Bool} {f : Nat→Option Bool} {r : Bool} (h : c = true→Ev f r) : Ev (fun k=>if c = true then f k else some false) (c && r):=by
 cases c with
 | true=>exact Ev.pos rfl (h rfl)
 | false=>exact Ev.neg (by simp) (Ev.now _)
theorem Ev.andp {c : Prop} [Decidable c] {f : Nat→Option Bool} {r : Bool} (h : c→Ev f r) : Ev (fun k=>if c then f k else some false) (decide c && r):=by
 by_cases hc : c
 ·rw [decide_eq_true hc];exact Ev.pos hc (h hc)
 ·rw [decide_eq_false hc];exact Ev.neg hc (Ev.now _)
theorem rdL {l : List Ln} {i : Nat} {x : Ln} (h : l[i]? = some x) : l5 l (i : Int) = x:=by
 unfold l5;exact J8 l bh3 h
theorem bF7 {α ρ : Type} (L : Nat→Int→Option ρ) (xs : List α) (p : α→Bool) (res : Nat→ρ) (z : ρ)
 (stop : Ev (fun k=>L k (xs.length : Int)) z)
 (hit : ∀ (i : Nat) x,xs[i]? = some x→p x = true→Ev (fun k=>L k (i : Int)) (res i))
 (step : ∀ (i : Nat) x r,xs[i]? = some x→p x = false→Ev (fun k=>L k ((i : Int) + 1)) r→Ev (fun k=>L k (i : Int)) r) (i : Nat) (hi : i≤xs.length) :
 Ev (fun k=>L k (i : Int)) (af9 p res z i (xs.drop i)):=by
 have key : ∀ (d i : Nat),xs.length - i = d→i≤xs.length→Ev (fun k=>L k (i : Int)) (af9 p res z i (xs.drop i)):=by
  intro d
  induction d with
  | zero=>
   intro i hd hi
   have : i = xs.length:=by omega
   subst this
   rw [List.drop_length]
   exact stop
  | succ d ih=>
   intro i hd hi
   have hlt : i < xs.length:=by omega
   have hx : xs[i]? = some xs[i]:=List.getElem?_eq_getElem hlt
   rw [List.drop_eq_getElem_cons hlt]
   simp only [af9]
   cases hp : p xs[i] with
   | true=>exact hit i _ hx hp
   | false=>exact step i _ _ hx hp (by have:=ih (i + 1) (by omega) (by omega);simpa using this)
 exact key _ i rfl hi
def emp (a : ByteArray) : Bool:=a.toList == ByteArray.empty.toList
def plc (x : Ln) : Bool:=x.f1.f0 == 0 && (x.f1.f1 == 0 && (x.f1.f2 == 0 && (x.f1.f3 == 0)))
def bj3 (a : ByteArray) (x : Ln) : Bool:=(x.f1.f0 == 0) && (x.f0.toList == a.toList)
def plV (l : List Ln) (a : ByteArray) (i : Nat) : Int:=af9 (bj3 a) (fun j=>(j : Int)) (-1) i (l.drop i)
theorem bW5 (l : List Ln) (a : ByteArray) (i : Nat) : plV l a i = -1∨((i : Int)≤plV l a i∧plV l a i < (l.length : Int)):=by
 unfold plV
 rcases an4 (bj3 a) (fun j=>(j : Int)) (-1) (l.drop i) i with ⟨_,j,x,hx,_,_,e⟩ | ⟨_,e⟩
 ·have:=G7 hx
  rw [List.length_drop] at this
  rw [e];right;omega
 ·rw [e];left;rfl
theorem am4 (x : Ln) : H4.f x.f0 x.f1.f0 x.f1.f1 x.f1.f2 x.f1.f3 x.f2 x.f3 = some (x.f1.f0 == 0):=rfl
theorem az7 (l : List Ln) (hl : l.length≤600) (a : ByteArray) (i : Nat) (hi : i≤l.length) : Ev (fun k=>y9.l0 k l a (i : Int)) (plV l a i):=by
 unfold plV
 refine bF7 (fun k i=>y9.l0 k l a i) l (bj3 a) _ _ ?_ ?_ ?_ i hi
 ·refine Ev.step (fun _=>rfl) ?_
  simp only [y9.l0]
  exact Ev.neg (by omega) (Ev.now _)
 ·intro i x hx hp
  have hi:=G7 hx
  unfold bj3 at hp
  rw [Bool.and_eq_true] at hp
  refine Ev.step (fun _=>rfl) ?_
  simp only [y9.l0]
  rw [rdL hx]
  exact Ev.pos (by omega) (Ev.pos (by omega) (Ev.bindc (am4 x) (Ev.pos hp.1 (Ev.pos hp.2 (Ev.now _)))))
 ·intro i x r hx hp hh
  have hi:=G7 hx
  unfold bj3 at hp
  refine Ev.step (fun _=>rfl) ?_
  simp only [y9.l0]
  rw [rdL hx,m7 (x:=(i : Int) + 1) (by omega) (by omega)]
  refine Ev.pos (by omega) (Ev.pos (by omega) (Ev.bindc (am4 x) ?_))
  cases hpl : (x.f1.f0 == 0) with
  | false=>exact Ev.neg (by simp) hh
  | true=>
   rw [hpl,Bool.true_and] at hp
   exact Ev.pos rfl (Ev.neg (by rw [hp];simp) hh)
theorem ak5 (l : List Ln) (hl : l.length≤600) (a : ByteArray) (i : Nat) (hi : i < l.length) : Ev (fun k=>y9.f k l a (i : Int)) (plV l a (i + 1)):=by
 unfold y9.f
 rw [m7 (by omega) (by omega)]
 exact az7 l hl a (i + 1) (by omega)
theorem bl2 (l : List Ln) (hl : l.length≤600) (a : ByteArray) : Ev (fun k=>y9.f k l a (-1)) (plV l a 0):=by
 unfold y9.f
 rw [m7 (by omega) (by omega)]
 exact az7 l hl a 0 (Nat.zero_le _)
def bV3 (x : Ln) : Bool:=decide (3≤x.f1.f0∧x.f1.f0≤6)
theorem aC6 (x : f9) : y7.f x.f0 x.f1 x.f2 x.f3 = some (decide (3≤x.f0∧x.f0≤6)):=by
 unfold y7.f
 rw [M2];rfl
def aK9 (l : List Ln) (i : Nat) (x : Ln) : Bool:=
 if x.f1.f0 = 0 then decide (1≤(x.f0.size : Int)∧(x.f0.size : Int)≤12) && (plc x && (emp x.f2 && (emp x.f3 && (plV l x.f0 0 == (i : Int)))))
 else emp x.f0 && (ak3 x.f1 && (decide (x.f1.f2 = 0) && (decide (x.f1.f3 = 0) &&
  (if 3≤x.f1.f0∧x.f1.f0≤6 then decide (plV l x.f2 (i + 1) ≥ 0) && decide (plV l x.f3 (i + 1) ≥ 0)
   else if x.f1.f0 = 7 then decide (x.f1.f1 = 0) && (decide (plV l x.f2 (i + 1) ≥ 0) && emp x.f3) else emp x.f2 && emp x.f3))))
theorem aB3 (l : List Ln) (hl : l.length≤600) (i : Nat) (x : Ln) (hx : l[i]? = some x) : Ev (fun k=>ad2.f k l (i : Int)) (aK9 l i x):=by
 have hi:=G7 hx
 unfold ad2.f aK9
 rw [rdL hx]
 refine Ev.pos (by omega) (Ev.pos (by omega) (Ev.bindc (am4 x) ?_))
 by_cases h0 : x.f1.f0 = 0
 ·rw [if_pos h0]
  refine Ev.pos (by rw [h0];rfl) (Ev.bindc (M2 _ _ _) (Ev.andc fun _=>Ev.andc fun _=>Ev.andc fun _=>Ev.andc fun _=>?_))
  exact Ev.bind (bl2 l hl _) (Ev.now _)
 ·rw [if_neg h0]
  refine Ev.neg (by simpa using h0) (Ev.andc fun _=>Ev.bindc (as1 x.f1) (Ev.andc fun _=>Ev.andp fun _=>Ev.andp fun _=>Ev.bindc (aC6 x.f1) ?_))
  by_cases ha : 3≤x.f1.f0∧x.f1.f0≤6
  ·rw [if_pos ha]
   exact Ev.pos (decide_eq_true ha) (Ev.bind (ak5 l hl _ i hi) (Ev.andp fun _=>Ev.bind (ak5 l hl _ i hi) (Ev.now _)))
  ·rw [if_neg ha]
   refine Ev.neg (by simpa using ha) ?_
   by_cases h7 : x.f1.f0 = 7
   ·rw [if_pos h7]
    exact Ev.pos h7 (Ev.andp fun _=>Ev.bind (ak5 l hl _ i hi) (Ev.andp fun _=>Ev.now _))
   ·rw [if_neg h7]
    exact Ev.neg h7 (Ev.andc fun _=>Ev.now _)
def ai2 (l : List Ln) : Bool:=decide (1≤(l.length : Int)∧(l.length : Int)≤600) && (decide ((l.getD (l.length - 1) bh3).f1.f0 = 8) && (T8 (aK9 l) 0 l && true))
theorem aT3 (l : List Ln) (hl : l.length≤1048576) : Ev (fun k=>J2.f k l) (ai2 l):=by
 unfold J2.f ai2
 refine Ev.bindc (M2 _ _ _) (Ev.andc fun h=>?_)
 have h:=of_decide_eq_true h
 have hl6 : l.length≤600:=by omega
 rw [m7 (x:=(l.length : Int) - 1) (by omega) (by omega),show (l.length : Int) - 1 = ((l.length - 1 : Nat) : Int) by omega]
 refine Ev.pos (by omega) (Ev.pos (by omega) ?_)
 have e : l5 l ((l.length - 1 : Nat) : Int) = l.getD (l.length - 1) bh3:=by unfold l5;rw [Int.toNat_natCast]
 rw [e]
 refine Ev.andp fun _=>?_
 refine aL9 (fun k i=>J2.l0 k l i) l (aK9 l) true ?_ ?_ ?_
 ·refine Ev.step (fun _=>rfl) ?_
  simp only [J2.l0]
  exact Ev.neg (by omega) (Ev.now _)
 ·intro i x hx hp
  have hi:=G7 hx
  refine Ev.step (fun _=>rfl) ?_
  simp only [J2.l0]
  have:=aB3 l hl6 i x hx
  rw [hp] at this
  exact Ev.pos (by omega) (Ev.bind this (Ev.neg (by simp) (Ev.now _)))
 ·intro i x r hx hp hr
  have hi:=G7 hx
  refine Ev.step (fun _=>rfl) ?_
  simp only [J2.l0]
  have:=aB3 l hl6 i x hx
  rw [hp] at this
  rw [m7 (x:=(i : Int) + 1) (by omega) (by omega)]
  exact Ev.pos (by omega) (Ev.bind this (Ev.pos rfl hr))
def aE4 : List Int→Int
 | []=>0
 | x :: r=>x + aE4 r
def ar6 (l : List Ln) (s : List Int) : Prop:=s.length = l.length∧∀ v ∈ s,0≤v∧v≤3
theorem bt7 : ∀ (s : List Int),(∀ v ∈ s,0≤v∧v≤3)→0≤aE4 s∧aE4 s≤3 * (s.length : Int)
 | [],_=>by simp [aE4]
 | x :: r,h=>by
  have h1:=h x (List.mem_cons_self ..)
  have h2:=bt7 r (fun v hv=>h v (List.mem_cons_of_mem _ hv))
  simp only [aE4,List.length_cons];omega
def btw (l : List Ln) (s : List Int) (i : Nat) (a : ByteArray) : Int:=aE4 ((s.take (plV l a (i + 1)).toNat).drop (i + 1))
theorem bT6 {l : List Ln} {s : List Int} (hs : ar6 l s) (hl : l.length≤600) (i : Nat) (a : ByteArray) : 0≤btw l s i a∧btw l s i a≤1800:=by
 have:=bt7 ((s.take (plV l a (i + 1)).toNat).drop (i + 1)) (fun v hv=>hs.2 v (List.mem_of_mem_take (List.mem_of_mem_drop hv)))
 have h1:=hs.1
 unfold btw
 rw [List.length_drop,List.length_take] at this
 omega
theorem ah6 {l : List Ln} {s : List Int} (hs : ar6 l s) (hl : l.length≤600) (i : Nat) (hi : i < l.length) (a : ByteArray) : Ev (fun k=>A5.f k l s (i : Int) a) (btw l s i a):=by
 unfold A5.f btw
 refine Ev.bind (ak5 l hl a i hi) ?_
 rw [m7 (by omega) (by omega)]
 have hp:=bW5 l a (i + 1)
 have h1:=hs.1
 generalize plV l a (i + 1) = e at hp
 have key : ∀ (d j : Nat) (v : Int),e.toNat - j = d→i + 1≤j→0≤v→v≤3 * (j : Int)→Ev (fun k=>A5.l0 k s e v (j : Int)) (v + aE4 ((s.take e.toNat).drop j)):=by
  intro d
  induction d with
  | zero=>
   intro j v hd hj hv hv2
   refine Ev.step (fun _=>rfl) ?_
   simp only [A5.l0]
   rw [List.drop_of_length_le (by rw [List.length_take];omega)]
   simp only [aE4,Int.add_zero]
   exact Ev.neg (by omega) (Ev.now _)
  | succ d ih=>
   intro j v hd hj hv hv2
   have hjs : j < s.length:=by omega
   have hx : s[j]? = some s[j]:=List.getElem?_eq_getElem hjs
   have hm:=hs.2 _ (List.getElem_mem hjs)
   refine Ev.step (fun _=>rfl) ?_
   simp only [A5.l0]
   rw [aJ8 hx,m7 (x:=(j : Int) + 1) (by omega) (by omega),m7 (x:=v + s[j]) (by omega) (by omega)]
   have hlt : j < (s.take e.toNat).length:=by rw [List.length_take];omega
   rw [List.drop_eq_getElem_cons hlt]
   simp only [aE4,List.getElem_take]
   rw [← Int.add_assoc]
   exact Ev.pos (by omega) (Ev.pos (by omega) (Ev.pos (by omega) (ih (j + 1) _ (by omega) (by omega) (by omega) (by omega))))
 have:=key _ (i + 1) 0 rfl (Nat.le_refl _) (by omega) (by omega)
 rwa [Int.zero_add] at this
def az2 (l : List Ln) : List Int:=l.map fun x=>if x.f1.f0 = 0 then 0 else 1
def aU2 (l : List Ln) (s : List Int) (i : Nat) (x : Ln) : Bool:=bV3 x && (!decide (s.getD i 0 = 3) && (decide (btw l s i x.f2 > 15) || decide (btw l s i x.f3 > 15)))
def ac9 (l : List Ln) (s : List Int) : Nat→List Ln→List Int→Bool→List Int×Bool
 | _,[],q,p=>(q,p)
 | i,x :: r,q,p=>if aU2 l s i x = true then ac9 l s (i + 1) r (q.set i 3) true else ac9 l s (i + 1) r q p
def szV (l : List Ln) : Nat→List Int→List Int
 | 0,s=>s
 | d + 1,s=>if (ac9 l s 0 l s false).2 = true then szV l d (ac9 l s 0 l s false).1 else (ac9 l s 0 l s false).1
def ai0 (l : List Ln) : List Int:=if ai2 l = true then szV l (l.length + 1) (az2 l) else []
theorem bX2 {l : List Ln} {q : List Int} (h : ar6 l q) (i : Nat) : ar6 l (q.set i 3):=⟨by rw [List.length_set];exact h.1,fun v hv=>by
 rcases List.mem_or_eq_of_mem_set hv with h1 | h1
 ·exact h.2 v h1
 ·omega⟩
theorem av4 (l : List Ln) (s : List Int) : ∀ (r : List Ln) (i : Nat) (q : List Int) (p : Bool),ar6 l q→ar6 l (ac9 l s i r q p).1
 | [],_,_,_,h=>h
 | x :: r,i,q,p,h=>by
  unfold ac9
  split
  ·exact av4 l s r (i + 1) _ _ (bX2 h i)
  ·exact av4 l s r (i + 1) _ _ h
theorem aH4 (l : List Ln) (s : List Int) : ∀ (r : List Ln) (i : Nat) (q : List Int) (p : Bool),i + r.length = q.length→(∀ j,i≤j→q.getD j 0 = s.getD j 0)→q.count 3≤(ac9 l s i r q p).1.count 3∧((ac9 l s i r q p).2 = true→p = true∨q.count 3 < (ac9 l s i r q p).1.count 3)
 | [],_,q,p,_,_=>⟨Nat.le_refl _,fun h=>.inl h⟩
 | x :: r,i,q,p,hl,he=>by
  rw [List.length_cons] at hl
  unfold ac9
  split
  ·rename_i hn
   unfold aU2 at hn
   simp only [Bool.and_eq_true,Bool.not_eq_true',decide_eq_false_iff_not] at hn
   have hi : i < q.length:=by omega
   have hq : ¬ q[i] = 3:=by
    have h1:=he i (Nat.le_refl _)
    rw [List.getD_eq_getElem?_getD,List.getElem?_eq_getElem hi,Option.getD_some] at h1
    rw [h1];exact hn.2.1
   have hc : (q.set i 3).count 3 = q.count 3 + 1:=by
    rw [List.count_set hi]
    simp [hq]
   have ih:=aH4 l s r (i + 1) (q.set i 3) true (by rw [List.length_set];omega) (fun j hj=>by
    rw [← he j (by omega),List.getD_eq_getElem?_getD,List.getD_eq_getElem?_getD,List.getElem?_set_ne (by omega)])
   exact ⟨by omega,fun _=>.inr (by omega)⟩
  ·exact aH4 l s r (i + 1) q p (by omega) (fun j hj=>he j (by omega))
theorem aX1 (l : List Ln) : ar6 l (az2 l):=⟨by unfold az2;rw [List.length_map],fun v hv=>by
 unfold az2 at hv
 obtain ⟨x,_,rfl⟩:=List.mem_map.1 hv
 split <;> omega⟩
theorem bC7 (l : List Ln) : ∀ (d : Nat) (s : List Int),ar6 l s→ar6 l (szV l d s)
 | 0,_,h=>h
 | d + 1,s,h=>by
  unfold szV
  split
  ·exact bC7 l d _ (av4 l s l 0 s false h)
  ·exact av4 l s l 0 s false h
theorem bk7 {l : List Ln} {s : List Int} (hs : ar6 l s) (hl : l.length≤600) (X : List Int) : ∀ (d i : Nat) (q : List Int) (p : Bool),l.length - i = d→i≤l.length→q.length = l.length→Ev (fun k=>x8.l2 k l (ac9 l s i (l.drop i) q p).1 (ac9 l s i (l.drop i) q p).2) X→Ev (fun k=>x8.l1 k l s p q (i : Int)) X:=by
 have h1:=hs.1
 intro d
 induction d with
 | zero=>
  intro i q p hd hi hq hX
  rw [show i = l.length by omega,List.drop_length] at hX
  refine Ev.step (fun _=>rfl) ?_
  simp only [x8.l1]
  exact Ev.neg (by omega) hX
 | succ d ih=>
  intro i q p hd hi hq hX
  have hlt : i < l.length:=by omega
  have hx : l[i]? = some l[i]:=List.getElem?_eq_getElem hlt
  rw [List.drop_eq_getElem_cons hlt] at hX
  have b1:=ah6 hs hl i hlt l[i].f2
  have b2:=ah6 hs hl i hlt l[i].f3
  refine Ev.step (fun _=>rfl) ?_
  simp only [x8.l1,rdL hx]
  rw [m7 (x:=(i : Int) + 1) (by omega) (by omega),ar3,Int.toNat_natCast,show (i : Int) + 1 = ((i + 1 : Nat) : Int) by omega]
  refine Ev.pos (by omega) (Ev.pos (by omega) (Ev.bindc (aC6 l[i].f1) ?_))
  unfold ac9 at hX
  have yes : aU2 l s i l[i] = true→Ev (fun k=>x8.l1 k l s true (q.set i 3) ((i + 1 : Nat) : Int)) X:=fun hn=>by
   rw [if_pos hn] at hX
   exact ih (i + 1) _ _ (by omega) (by omega) (by rw [List.length_set];exact hq) hX
  have no : ¬ aU2 l s i l[i] = true→Ev (fun k=>x8.l1 k l s p q ((i + 1 : Nat) : Int)) X:=fun hn=>by
   rw [if_neg hn] at hX
   exact ih (i + 1) _ _ (by omega) (by omega) hq hX
  unfold aU2 bV3 at yes no
  by_cases ha : 3≤l[i].f1.f0∧l[i].f1.f0≤6
  ·refine Ev.pos (decide_eq_true ha) (Ev.pos (by omega) ?_)
   by_cases h3 : s.getD i 0 = 3
   ·exact Ev.pos h3 (no (by rw [decide_eq_true h3];simp))
   ·refine Ev.neg h3 (Ev.bind b1 ?_)
    by_cases hy : btw l s i l[i].f2 > 15
    ·exact Ev.pos hy (Ev.pos (by omega) (yes (by rw [decide_eq_true ha,decide_eq_false h3,decide_eq_true hy];rfl)))
    ·refine Ev.neg hy (Ev.bind b2 ?_)
     by_cases hn : btw l s i l[i].f3 > 15
     ·exact Ev.pos hn (Ev.pos (by omega) (yes (by rw [decide_eq_true ha,decide_eq_false h3,decide_eq_false hy,decide_eq_true hn];rfl)))
     ·exact Ev.neg hn (no (by rw [decide_eq_false hy,decide_eq_false hn];simp))
  ·exact Ev.neg (by simpa using ha) (no (by rw [decide_eq_false ha];simp))
theorem bf6 {l : List Ln} (hl : l.length≤600) : ∀ (d : Nat) (s : List Int),ar6 l s→l.length - s.count 3 < d→Ev (fun k=>x8.l2 k l s true) (szV l d s):=by
 intro d
 induction d with
 | zero=>intro s _ h;omega
 | succ d ih=>
  intro s hs hd
  have h1:=hs.1
  refine Ev.step (fun _=>rfl) ?_
  simp only [x8.l2]
  refine Ev.pos (by trivial) (Ev.pos (by simp;omega) ?_)
  rw [List.nil_append]
  refine bk7 hs hl _ l.length 0 s false rfl (Nat.zero_le _) h1 ?_
  rw [List.drop_zero]
  unfold szV
  have hc:=aH4 l s l 0 s false (by omega) (fun _ _=>rfl)
  have hk:=av4 l s l 0 s false hs
  have hle : s.count 3≤s.length:=List.count_le_length
  have hle2 : (ac9 l s 0 l s false).1.count 3≤(ac9 l s 0 l s false).1.length:=List.count_le_length
  have hk1:=hk.1
  cases hb : (ac9 l s 0 l s false).2 with
  | true=>
   rw [if_pos rfl]
   have:=(hc.2 hb).resolve_left (by simp)
   exact ih _ hk (by omega)
  | false=>
   rw [if_neg (by simp)]
   refine Ev.step (fun _=>rfl) ?_
   simp only [x8.l2]
   exact Ev.neg (by simp) (Ev.now _)
theorem bf0 (l : List Ln) (hl : l.length≤1048576) : Ev (fun k=>x8.f k l) (ai0 l):=by
 unfold x8.f ai0
 refine Ev.bind (aT3 l hl) ?_
 by_cases ho : ai2 l = true
 ·rw [if_pos ho]
  refine Ev.pos ho ?_
  have h6 : l.length≤600:=by
   unfold ai2 at ho
   rw [Bool.and_eq_true,decide_eq_true_eq] at ho
   omega
  have key : ∀ (d i : Nat),l.length - i = d→i≤l.length→Ev (fun k=>x8.l0 k l ((az2 l).take i) (i : Int)) (szV l (l.length + 1) (az2 l)):=by
   have hb:=(aX1 l).1
   intro d
   induction d with
   | zero=>
    intro i hd hi
    rw [show i = l.length by omega,List.take_of_length_le (by omega)]
    refine Ev.step (fun _=>rfl) ?_
    simp only [x8.l0]
    exact Ev.neg (by omega) (bf6 h6 _ _ (aX1 l) (by omega))
   | succ d ih=>
    intro i hd hi
    have hlt : i < l.length:=by omega
    have hx : l[i]? = some l[i]:=List.getElem?_eq_getElem hlt
    have hbx : (az2 l)[i]? = some (if l[i].f1.f0 = 0 then 0 else 1):=by unfold az2;rw [List.getElem?_map,hx];rfl
    have hr:=ih (i + 1) (by omega) (by omega)
    rw [List.take_add_one,hbx] at hr
    refine Ev.step (fun _=>rfl) ?_
    simp only [x8.l0,rdL hx]
    rw [m7 (x:=(i : Int) + 1) (by omega) (by omega)]
    refine Ev.pos (by omega) (Ev.pos (by omega) (Ev.bindc (am4 l[i]) ?_))
    by_cases h0 : l[i].f1.f0 = 0
    ·rw [if_pos h0] at hr
     exact Ev.pos (by rw [h0];rfl) (Ev.pos (by rw [List.length_take];simp;omega) hr)
    ·rw [if_neg h0] at hr
     exact Ev.neg (by simpa using h0) (Ev.pos (by rw [List.length_take];simp;omega) hr)
  exact key l.length 0 rfl (Nat.zero_le _)
 ·rw [if_neg ho];exact Ev.neg ho (Ev.now _)
theorem bN4 {α β ρ : Type} (L : Nat→List β→Int→Option ρ) (xs : List α) (g : Nat→α→List β) (B : Nat) (X : ρ) (hg : ∀ i x,x ∈ xs→(g i x).length≤B)
 (stop : Ev (fun k=>L k (S1 g 0 xs) (xs.length : Int)) X)
 (step : ∀ (i : Nat) x q,xs[i]? = some x→q.length≤B * i→Ev (fun k=>L k (q ++ g i x) ((i : Int) + 1)) X→Ev (fun k=>L k q (i : Int)) X) : Ev (fun k=>L k [] 0) X:=by
 have key : ∀ (d i : Nat) (q : List β),xs.length - i = d→i≤xs.length→q.length≤B * i→q ++ S1 g i (xs.drop i) = S1 g 0 xs→Ev (fun k=>L k q (i : Int)) X:=by
  intro d
  induction d with
  | zero=>
   intro i q hd hi hq he
   rw [show i = xs.length by omega,List.drop_length] at he
   simp only [S1,List.append_nil] at he
   rw [he,show i = xs.length by omega]
   exact stop
  | succ d ih=>
   intro i q hd hi hq he
   have hlt : i < xs.length:=by omega
   have hx : xs[i]? = some xs[i]:=List.getElem?_eq_getElem hlt
   have hgl:=hg i xs[i] (List.getElem_mem hlt)
   rw [List.drop_eq_getElem_cons hlt] at he
   simp only [S1] at he
   refine step i _ _ hx hq ?_
   have:=ih (i + 1) (q ++ g i xs[i]) (by omega) (by omega) (by rw [List.length_append,Nat.mul_add,Nat.mul_one];omega) (by rw [← he,List.append_assoc])
   rwa [show ((i + 1 : Nat) : Int) = (i : Int) + 1 by omega] at this
 exact key xs.length 0 [] rfl (Nat.zero_le _) (Nat.zero_le _) (by rw [List.drop_zero,List.nil_append])
abbrev Iw:=f9
def as0 (l : List Ln) (s : List Int) (i : Nat) (x : Ln) : List Iw:=
 if x.f1.f0 = 0 then []
 else if x.f1.f0 = 7 then [⟨x.f1.f0,btw l s i x.f2,x.f1.f2,x.f1.f3⟩]
 else if 3≤x.f1.f0∧x.f1.f0≤6 then
  (if s.getD i 0 = 3 then [⟨x.f1.f0,x.f1.f1,0,1⟩,⟨7,btw l s i x.f2 + 1,0,0⟩,⟨7,btw l s i x.f3,0,0⟩] else [⟨x.f1.f0,x.f1.f1,btw l s i x.f2,btw l s i x.f3⟩])
 else [x.f1]
theorem bL6 (l : List Ln) (s : List Int) (i : Nat) (x : Ln) : (as0 l s i x).length≤3:=by
 unfold as0
 repeat' split
 all_goals simp
def aQ0 (l : List Ln) : List Iw×Bool:=
 if (ai0 l).length = 0 then ([],false)
 else if 1≤(S1 (as0 l (ai0 l)) 0 l).length∧(S1 (as0 l (ai0 l)) 0 l).length≤400 then (S1 (as0 l (ai0 l)) 0 l,true) else ([],false)
theorem bL8 (l : List Ln) : (aQ0 l).1.length≤400:=by
 unfold aQ0
 split
 ·exact Nat.zero_le _
 ·split
  ·rename_i h;exact h.2
  ·exact Nat.zero_le _
theorem aY1 (l : List Ln) (hl : l.length≤1048576) : Ev (fun k=>v8.f k l) (aQ0 l):=by
 unfold v8.f
 refine Ev.bind (bf0 l hl) ?_
 unfold aQ0
 by_cases h0 : (ai0 l).length = 0
 ·rw [if_pos h0]
  refine Ev.step (fun _=>rfl) ?_
  simp only [v8.l0]
  by_cases hz : l.length = 0
  ·refine Ev.neg (by omega) (Ev.bindc (M2 _ _ _) (Ev.neg (by simp) (Ev.now _)))
  ·exact Ev.pos (by omega) (Ev.pos (by omega) (Ev.pos (by omega) (Ev.now _)))
 ·rw [if_neg h0]
  have ho : ai2 l = true:=by
   unfold ai0 at h0
   by_cases h : ai2 l = true
   ·exact h
   ·rw [if_neg h] at h0;exact absurd rfl h0
  have h6 : l.length≤600:=by
   unfold ai2 at ho
   rw [Bool.and_eq_true,decide_eq_true_eq] at ho
   omega
  have hs : ar6 l (ai0 l):=by unfold ai0;rw [if_pos ho];exact bC7 l _ _ (aX1 l)
  generalize ai0 l = s at h0 hs ⊢
  have h1:=hs.1
  have gen : ∀ X,X = (if 1≤(S1 (as0 l s) 0 l).length∧(S1 (as0 l s) 0 l).length≤400 then (S1 (as0 l s) 0 l,true) else ([],false))→Ev (fun k=>v8.l0 k l s [] 0) X:=?_
  ·exact gen _ rfl
  intro X hX
  refine bN4 (fun k q i=>v8.l0 k l s q i) l (as0 l s) 3 X (fun i x _=>bL6 l s i x) ?_ ?_
  ·rw [hX]
   refine Ev.step (fun _=>rfl) ?_
   simp only [v8.l0]
   refine Ev.neg (by omega) (Ev.bindc (M2 _ _ _) ?_)
   by_cases hw : 1≤(S1 (as0 l s) 0 l).length∧(S1 (as0 l s) 0 l).length≤400
   ·rw [if_pos hw];exact Ev.pos (by simp;omega) (Ev.now _)
   ·rw [if_neg hw];exact Ev.neg (by simp;omega) (Ev.now _)
  ·intro i x q hx hq hr
   have hi:=G7 hx
   have b1:=ah6 hs h6 i hi x.f2
   have b2:=ah6 hs h6 i hi x.f3
   have c1:=bT6 hs h6 i x.f2
   refine Ev.step (fun _=>rfl) ?_
   simp only [v8.l0,rdL hx]
   refine Ev.pos (by omega) (Ev.pos (by omega) (Ev.neg (by omega) (Ev.bindc (am4 x) ?_)))
   have e1 : ∀ _ : Unit,wrap64 ((i : Int) + 1) = (i : Int) + 1:=fun _=>m7 (by omega) (by omega)
   have one : ∀ a b c : Int,Ev (fun k=>v8.l0 k l s (q ++ [⟨x.f1.f0,a,b,c⟩]) ((i : Int) + 1)) X→Ev (fun k=>v8.j1 k l s q (i : Int) a b c) X:=fun a b c h=>by
    refine Ev.step (fun _=>rfl) ?_
    simp only [v8.j1,rdL hx]
    rw [e1 ()]
    exact Ev.pos (by simp;omega) h
   unfold as0 at hr
   by_cases hp : x.f1.f0 = 0
   ·rw [if_pos hp,List.append_nil] at hr
    rw [e1 ()]
    exact Ev.pos (by rw [hp];rfl) hr
   rw [if_neg hp] at hr
   refine Ev.neg (by simpa using hp) ?_
   by_cases h7 : x.f1.f0 = 7
   ·rw [if_pos h7] at hr
    exact Ev.pos h7 (Ev.bind b1 (one _ _ _ hr))
   rw [if_neg h7] at hr
   refine Ev.neg h7 (Ev.bindc (aC6 x.f1) ?_)
   have no : (decide (3≤x.f1.f0∧x.f1.f0≤6) = true→¬ s.getD i 0 = 3)→Ev (fun k=>v8.j0 k l s q (i : Int) false) X:=fun h3=>by
    refine Ev.step (fun _=>rfl) ?_
    simp only [v8.j0,rdL hx]
    refine Ev.neg (by simp) (Ev.bindc (aC6 x.f1) ?_)
    by_cases ha : 3≤x.f1.f0∧x.f1.f0≤6
    ·rw [if_pos ha,if_neg (h3 (decide_eq_true ha))] at hr
     exact Ev.pos (decide_eq_true ha) (Ev.bind b1 (Ev.bind b2 (one _ _ _ hr)))
    ·rw [if_neg ha] at hr
     exact Ev.neg (by simpa using ha) (one _ _ _ hr)
   by_cases ha : 3≤x.f1.f0∧x.f1.f0≤6
   ·refine Ev.pos (decide_eq_true ha) (Ev.pos (by omega) ?_)
    rw [ar3]
    by_cases h3 : s.getD i 0 = 3
    ·rw [if_pos ha,if_pos h3] at hr
     rw [h3]
     refine Ev.step (fun _=>rfl) ?_
     simp only [v8.j0,rdL hx]
     refine Ev.pos (by rfl) (Ev.bind b1 (Ev.bind b2 (Ev.pos (by simp;omega) ?_)))
     rw [e1 (),m7 (x:=btw l s i x.f2 + 1) (by omega) (by omega)]
     exact hr
    ·rw [show (s.getD i 0 == 3) = false from beq_eq_false_iff_ne.2 h3]
     exact no (fun _=>h3)
   ·exact Ev.neg (by simpa using ha) (no (fun h=>absurd (of_decide_eq_true h) ha))
def aS3 (a c d : Int) (l : List Rul) : List Iw×Int:=
 if ap5 a c d l = true then (if (ar2 a c d l).length > 600 then ([],2) else if (aQ0 (ar2 a c d l)).2 = true then ((aQ0 (ar2 a c d l)).1,0) else ([],2)) else ([],1)
theorem bE4 (a c d : Int) (l : List Rul) : (aS3 a c d l).1.length≤400:=by
 unfold aS3
 split
 ·split
  ·exact Nat.zero_le _
  ·split
   ·exact bL8 _
   ·exact Nat.zero_le _
 ·exact Nat.zero_le _
theorem aW2 (a c d : Int) (l : List Rul) (hl : Sm l) : Ev (fun k=>W5.f k a c d l) (aS3 a c d l):=by
 unfold W5.f aS3
 refine Ev.bind (aw4 a c d l hl) ?_
 by_cases hp : ap5 a c d l = true
 ·rw [if_pos hp]
  have hr:=bC8 hp
  have hn:=by6 a c d hr
  refine Ev.pos hp (Ev.bind (aG5 a c d hr) (Ev.bind (aY1 _ (by omega)) ?_))
  by_cases h6 : (ar2 a c d l).length > 600
  ·rw [if_pos h6];exact Ev.pos (by omega) (Ev.now _)
  ·rw [if_neg h6]
   refine Ev.neg (by omega) ?_
   by_cases hk : (aQ0 (ar2 a c d l)).2 = true
   ·refine Ev.pos hk ?_
    rw [if_pos hk];exact Ev.now _
   ·refine Ev.neg hk ?_
    rw [if_neg hk];exact Ev.now _
 ·rw [if_neg hp];exact Ev.neg hp (Ev.now _)
end Go.Proofs.YtahmbcgolnplgaaGreat.PFnNoHoles
