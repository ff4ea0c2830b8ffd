import Derived.Test.YtahmbcgolnplgaaGreatDevH
set_option linter.unusedVariables false
set_option linter.unusedSimpArgs false
namespace Go.Proofs.YtahmbcgolnplgaaGreat.PFnNoHoles
open Go Go.RowKit Go.Proofs.YtahmbcgolnplgaaGreatA Go.Proofs.YtahmbcgolnplgaaGreatL
inductive aW9 : List Evt→Wv→List Int→Wv→List Int→Prop
 | nil (w : Wv) (cs : List Int) : aW9 [] w cs w cs
 | cons {e : Evt} {es : List Evt} {w : Wv} {cs : List Int} {r : Int×Wv} {w' : Wv} {cs' : List Int} : X7 w e r→aW9 es r.2 (cs ++ [r.1]) w' cs'→aW9 (e :: es) w cs w' cs'
theorem bt2 : ∀ (es : List Evt) (n : Nat) (T : Int→List It) (w : Wv) (cs : List Int),n + es.length≤90→(∀ e ∈ es,V9 e = true)→WI T n w→∃ w' cs' T',aW9 es w cs w' cs'∧WI T' (n + es.length) w'
 | [],n,T,w,cs,_,_,h=>⟨w,cs,T,.nil w cs,h⟩
 | e :: es,n,T,w,cs,hn,he,h=>by
  rw [List.length_cons] at hn
  have h1:=he e (List.mem_cons_self ..)
  obtain ⟨r,hr⟩:=bR8 (h.ws (by omega)) h1
  obtain ⟨T1,h2⟩:=bm6 h (by omega) h1 hr
  obtain ⟨w',cs',T',h3,h4⟩:=bt2 es (n + 1) T1 r.2 (cs ++ [r.1]) (by omega) (fun x hx=>he x (List.mem_cons_of_mem _ hx)) h2
  exact ⟨w',cs',T',.cons hr h3,by rw [List.length_cons];rw [show n + (es.length + 1) = n + 1 + es.length by omega];exact h4⟩
def w0 : Wv:=⟨[[],[],[]],[⟨[],5,0,0⟩,⟨[],5,0,0⟩,⟨[],5,0,0⟩],[⟨0,1,[],0,1⟩,⟨1,1,[],0,1⟩,⟨2,1,[],0,1⟩],[],[1,1,1],[],0,[1,1,1],[],0,[],[]⟩
theorem bB4 : WI (fun _=>[]) 0 w0:=by
 have P : ∀ p : Int,0≤p→p≤2→PI [] (o9 w0 p) (y3 w0 p) (rd w0.A p) w0.file p:=by
  intro p p0 p2
  obtain rfl | rfl | rfl : p = 0∨p = 1∨p = 2:=by omega
  all_goals exact ⟨rfl,rfl,rfl,by decide,rfl,rfl,rfl⟩
 exact { s3:=rfl,sS:=fun x hx=>by simp [w0] at hx;subst hx;rfl,r3:=rfl,rR:=fun y hy=>by simp [w0] at hy;subst hy;rfl,rC:=fun y hy=>by simp [w0] at hy;subst hy;decide,d3:=rfl,dD:=fun y hy=>by (simp [w0] at hy;rcases hy with rfl | rfl | rfl <;> rfl),n10:=by decide,nL:=fun l hl=>by simp [w0] at hl,t0:=by decide,t:=by decide,re:=by decide,fi:=by decide,P:=P,K:=(bP8 _).mono (by omega) (fun _ _ _ h=>h) }
theorem aU4 : Ev (fun k=>H5.f k) (w0.s,w0.r,w0.d,[1,1,1],0,[1,1,1],0):=by
 unfold H5.f
 refine Ev.bindc (show aa8.f = some ([1,1,1],0,[1,1,1]) from rfl) ?_
 refine Ev.step (fun _=>rfl) ?_
 simp only [H5.l0]
 refine Ev.pos (by decide) (Ev.pos (by decide) ?_)
 refine Ev.bindc rfl ?_
 refine Ev.pos (by decide) ?_
 refine Ev.bindc rfl ?_
 refine Ev.pos (by decide) ?_
 rw [show wrap64 (0 + 1) = 1 from by kernel_rfl]
 refine Ev.step (fun _=>rfl) ?_
 simp only [H5.l0]
 refine Ev.pos (by decide) (Ev.pos (by decide) ?_)
 refine Ev.bindc rfl ?_
 refine Ev.pos (by decide) ?_
 refine Ev.bindc rfl ?_
 refine Ev.pos (by decide) ?_
 rw [show wrap64 (1 + 1) = 2 from by kernel_rfl]
 refine Ev.step (fun _=>rfl) ?_
 simp only [H5.l0]
 refine Ev.pos (by decide) (Ev.pos (by decide) ?_)
 refine Ev.bindc rfl ?_
 refine Ev.pos (by decide) ?_
 refine Ev.bindc rfl ?_
 refine Ev.pos (by decide) ?_
 rw [show wrap64 (2 + 1) = 3 from by kernel_rfl]
 refine Ev.step (fun _=>rfl) ?_
 simp only [H5.l0]
 exact Ev.neg (by decide) (Ev.now _)
theorem rEv {l : List Evt} {i : Nat} {x : Evt} (h : l[i]? = some x) : Z5 l (i : Int) = x:=by
 unfold Z5;simpa using J8 l z62 h
theorem bp9 (l : List Evt) (hl : l.length≤90) (ho : ∀ e ∈ l,V9 e = true) (hz : ∀ e ∈ l,e.f3.f2.length≤1048576) : ∀ (d i : Nat) (T : Int→List It) (w : Wv) (cs : List Int) (w' : Wv) (cs' : List Int),l.length - i = d→i≤l.length→cs.length = i→WI T i w→aW9 (l.drop i) w cs w' cs' →
 Ev (fun k=>B6.l1 k l w.s w.r w.d w.L w.N w.E w.a w.A w.net w.now w.res w.file cs (i : Int)) (w'.s,w'.r,w'.d,w'.L,w'.N,w'.E,w'.a,w'.A,w'.net,w'.now,w'.res,w'.file,cs',true):=by
 intro d
 induction d with
 | zero=>
  intro i T w cs w' cs' hd hi hc h hr
  rw [List.drop_of_length_le (by omega)] at hr
  cases hr
  refine Ev.step (fun _=>rfl) ?_
  simp only [B6.l1]
  exact Ev.neg (by omega) (Ev.now _)
 | succ d ih=>
  intro i T w cs w' cs' hd hi hc h hr
  have hlt : i < l.length:=by omega
  have hx : l[i]? = some l[i]:=List.getElem?_eq_getElem hlt
  have hm : l[i] ∈ l:=List.getElem_mem _
  rw [List.drop_eq_getElem_cons hlt] at hr
  cases hr with
  | cons h1 h2=>
   have e:=bp8 (h.ws (by omega)) (ho _ hm) (hz _ hm) h1
   obtain ⟨T1,h3⟩:=bm6 h (by omega) (ho _ hm) h1
   refine Ev.step (fun _=>rfl) ?_
   simp only [B6.l1]
   rw [rEv hx,m7 (x:=(i : Int) + 1) (by omega) (by omega)]
   refine Ev.pos (by omega) (Ev.pos (by omega) (Ev.bind e (Ev.pos (by simp only [List.length_cons,List.length_nil];omega) ?_)))
   exact ih (i + 1) T1 _ _ w' cs' (by omega) (by omega) (by rw [List.length_append,List.length_singleton];omega) h3 h2
theorem aW4 (l : List Evt) (hl : l.length≤90) (ho : ∀ e ∈ l,V9 e = true) (hz : ∀ e ∈ l,e.f3.f2.length≤1048576) {w : Wv} {cs : List Int} (hr : aW9 l w0 [] w cs) :
 Ev (fun k=>B6.f k l) (w.s,w.r,w.d,w.L,w.N,w.E,w.a,w.A,w.net,w.now,w.res,w.file,cs,true):=by
 have e1:=bp9 l hl ho hz _ 0 _ w0 [] w cs rfl (Nat.zero_le _) rfl bB4 (by rw [List.drop_zero];exact hr)
 unfold B6.f
 refine Ev.neg (by omega) ?_
 have key : ∀ (d i : Nat),l.length - i = d→i≤l.length→Ev (fun k=>B6.l0 k l (i : Int)) (w.s,w.r,w.d,w.L,w.N,w.E,w.a,w.A,w.net,w.now,w.res,w.file,cs,true):=by
  intro d
  induction d with
  | zero=>
   intro i hd hi
   refine Ev.step (fun _=>rfl) ?_
   simp only [B6.l0]
   exact Ev.neg (by omega) (Ev.bind aU4 e1)
  | succ d ih=>
   intro i hd hi
   have hx : l[i]? = some l[i]:=List.getElem?_eq_getElem (by omega)
   have hm : l[i] ∈ l:=List.getElem_mem _
   have e:=aB2 l[i] (hz _ hm)
   rw [ho _ hm] at e
   refine Ev.step (fun _=>rfl) ?_
   simp only [B6.l0]
   rw [rEv hx,m7 (x:=(i : Int) + 1) (by omega) (by omega)]
   exact Ev.pos (by omega) (Ev.pos (by omega) (Ev.bind e (Ev.pos rfl (ih (i + 1) (by omega) (by omega)))))
 exact key _ 0 rfl (Nat.zero_le _)
end Go.Proofs.YtahmbcgolnplgaaGreat.PFnNoHoles
namespace Go.Proofs.YtahmbcgolnplgaaGreat.PFnNoHoles
open Go Go.RowKit Go.Proofs.YtahmbcgolnplgaaGreatA Go.Proofs.YtahmbcgolnplgaaGreatL
theorem bo0 (p : Int) : ∀ (d : Nat) (L : List En') (E : List Er') (x : Int),x≤(ab8 p d L E x).2.2
 | 0,L,E,x=>Int.le_refl _
 | d + 1,L,E,x=>by
  unfold ab8
  split
  ·exact Int.le_refl _
  ·have:=bo0 p d (L ++ [⟨p,x,(E.getD (ag4 E p x).toNat aQ2).f2⟩]) (E.eraseIdx (ag4 E p x).toNat) (x + 1)
   omega
theorem bK8 {L : List En'} {N : List Int} {E : List Er'} {a : Int} {A : List Int} {kd p s q0 q1 q2 q3 : Int} (hN : N.length = 3) (hL : L.length < 200) (hf : ad7 kd p s q0 q1 q2 q3 = true) (hk : kd = 1) (hs : s≤rd N p) :
 s + 1≤rd (ai7 L N E a A kd p s q0 q1 q2 q3).2.1 p∧∀ q,0≤q→q≠p→rd (ai7 L N E a A kd p s q0 q1 q2 q3).2.1 q = rd N q:=by
 obtain ⟨r1,r2,_⟩:=ai3 hf
 have hp : p < (N.length : Int):=by omega
 unfold ai7
 rw [if_pos ⟨hf,hk,hp,hL⟩]
 by_cases h5 : s = rd N p
 ·rw [if_pos h5]
  have:=bo0 p (199 - L.length) (L ++ [⟨p,s,⟨q0,q1,q2,q3⟩⟩]) E (s + 1)
  refine ⟨?_,fun q h0 hq=>?_⟩
  ·dsimp only;rw [aI5 N p _ r1.1 hp];exact this
  ·dsimp only;exact ay6 N p q _ r1.1 h0 (Ne.symm hq)
 ·rw [if_neg h5]
  split
  ·exact ⟨by dsimp only;omega,fun _ _ _=>rfl⟩
  ·exact ⟨by dsimp only;omega,fun _ _ _=>rfl⟩
structure aY3 (w w' : Wv) : Prop where
 s : w'.s = w.s
 r : w'.r = w.r
 d : w'.d = w.d
 net : w'.net = w.net
 now : w'.now = w.now
 res : w'.res = w.res
 file : w'.file = w.file
 a : w'.a = w.a
 A : w'.A = w.A
theorem aY3.trans {u v w : Wv} (h : aY3 u v) (g : aY3 v w) : aY3 u w:=⟨g.s.trans h.s,g.r.trans h.r,g.d.trans h.d,g.net.trans h.net,g.now.trans h.now,g.res.trans h.res,g.file.trans h.file,g.a.trans h.a,g.A.trans h.A⟩
theorem bH0 {T : Int→List It} {n : Nat} {w : Wv} (h : WI T n w) (hn : w.file.length≤90) {f : P9} (hf : ae0 f = true) (h1 : f.f0 = 1) (hq : TQ T f.f1 f.f2 f.f3) (hs : f.f2≤rd w.N f.f1) :
 WI T n (I4 w false f)∧aY3 w (I4 w false f)∧f.f2 + 1≤rd (I4 w false f).N f.f1∧∀ q,0≤q→q≠f.f1→rd (I4 w false f).N q = rd w.N q:=by
 obtain ⟨k1,k2,k3⟩:=bm9 h hn f (fun _=>hq)
 have hl:=(ao5 h.K (fun p p0 p2=>h.Tn p0 p2)).1
 have e : (I4 w false f).N = (ai7 w.L w.N w.E w.a w.A f.f0 f.f1 f.f2 f.f3.f0 f.f3.f1 f.f3.f2 f.f3.f3).2.1:=by unfold I4;rw [if_neg (by decide)]
 have e2 : I4 w false f = { w with L:=(I4 w false f).L,N:=(I4 w false f).N,E:=(I4 w false f).E,a:=(I4 w false f).a,A:=(I4 w false f).A }:=by unfold I4;rw [if_neg (by decide)]
 obtain ⟨m1,m2⟩:=bK8 (a:=w.a) (A:=w.A) (E:=w.E) (L:=w.L) h.K.hN (by omega) hf h1 hs
 refine ⟨k1,⟨?_,?_,?_,?_,?_,?_,?_,k3,k2⟩,by rw [e];exact m1,fun q h0 hq=>by rw [e];exact m2 q h0 hq⟩
 all_goals rw [e2]
theorem bG5 {T : Int→List It} {n : Nat} (hn : n≤150) {p : Int} (p0 : 0≤p) (fs : List P9) (hl : fs.length≤1000) (c : Int) (hf : ∀ (j : Nat) x,fs[j]? = some x→ae0 x = true∧x.f0 = 1∧x.f1 = p∧x.f2 = c + (j : Int)∧TQ T x.f1 x.f2 x.f3) (a1 i0 : Int) (t238 : Bool×List (List (List Iw))×List Rg×List Sd×List En'×List Int×List Er'×Int×List Int×List Lt×Int×List Int×List Sn) (t245 : Int×Int×List It×Int×Int×Bool) :
 ∀ (d i : Nat) (w : Wv),fs.length - i = d→i≤fs.length→WI T n w→w.file.length≤90→c + (i : Int)≤rd w.N p→∃ w',WI T n w'∧aY3 w w'∧c + (fs.length : Int)≤rd w'.N p∧(∀ q,0≤q→q≠p→rd w'.N q = rd w.N q) ∧
  ∀ r,Ev (fun k=>m5.l1 k a1 i0 p t238 t245 fs w'.L w'.N w'.E w'.a w'.A (fs.length : Int)) r→Ev (fun k=>m5.l1 k a1 i0 p t238 t245 fs w.L w.N w.E w.a w.A (i : Int)) r:=by
 intro d
 induction d with
 | zero=>
  intro i w hd hi hw hff hc
  have : i = fs.length:=by omega
  subst this
  exact ⟨w,hw,⟨rfl,rfl,rfl,rfl,rfl,rfl,rfl,rfl,rfl⟩,hc,fun _ _ _=>rfl,fun r h=>h⟩
 | succ d ih=>
  intro i w hd hi hw hff hc
  have hx : fs[i]? = some fs[i]:=List.getElem?_eq_getElem (by omega)
  obtain ⟨x1,x2,x3,x4,x5⟩:=hf i _ hx
  obtain ⟨g1,g2,g3,g4⟩:=bH0 hw hff x1 x2 x5 (by rw [x3,x4];exact hc)
  rw [x3] at g3 g4
  obtain ⟨w',k1,k2,k3,k4,k5⟩:=ih (i + 1) (I4 w false fs[i]) (by omega) (by omega) g1 (by rw [g2.file];exact hff) (by omega)
  refine ⟨w',k1,g2.trans k2,k3,fun q h0 hq=>(k4 q h0 hq).trans (g4 q h0 hq),fun r h=>?_⟩
  have e:=aO4 (hw.ws hn).b.k w.a fs[i].f0 fs[i].f1 fs[i].f2 fs[i].f3.f0 fs[i].f3.f1 fs[i].f3.f2 fs[i].f3.f3
  refine Ev.step (fun _=>rfl) ?_
  simp only [m5.l1]
  rw [rFr hx,m7 (x:=(i : Int) + 1) (by omega) (by omega)]
  refine Ev.pos (by omega) (Ev.pos (by omega) (Ev.bind e ?_))
  have:=k5 r h
  unfold I4 at this
  rw [if_neg (by decide)] at this
  exact this
theorem bR1 {l : List Sd} {p : Int} {x : Sd} (p0 : 0≤p) (h : p < (l.length : Int)) : I0 (l.set p.toNat x) p = x:=by
 unfold I0
 rw [List.getD_eq_getElem?_getD,List.getElem?_set_self (by omega)];rfl
structure aX4 (T T' : Int→List It) (n : Nat) (w w' : Wv) (p : Int) : Prop where
 i : WI T' (n + 1) w'
 file : w'.file = w.file
 now : w'.now = w.now
 none : (o9 w' p).f2 = []
 N : rd w'.N p = ((T' p).length : Int) + 1
 C : rgC (y3 w' p)≤rgC (y3 w p) - (3 - (o9 w p).f2.length)
 O : ∀ q,0≤q→q≠p→T' q = T q∧o9 w' q = o9 w q∧y3 w' q = y3 w q∧rd w'.N q = rd w.N q
theorem bk9 {T : Int→List It} {n : Nat} {w : Wv} (h : WI T n w) (hn : n≤140) (hff : w.file.length≤90) {p : Int} (p0 : 0≤p) (p3 : p < 3) (hd : (Q1 w p).1 = false) (hdw : (Q1 w p).2 = w) (hC : (o9 w p).f2.length = 3∨rgC (y3 w p) = 0) (a1 c : Int) :
 ∃ w',aX4 T T n w w' p∧∀ r,Ev (fun k=>m5.l2 k a1 c w'.s w'.r w'.d w'.L w'.N w'.E w'.a w'.A w'.net w'.now w'.res w'.file (p + 1)) r→Ev (fun k=>m5.l0 k a1 c p w.s w.r w.d w.L w.N w.E w.a w.A w.net w.now w.res w.file) r:=by
 have hb:=(h.ws (by omega)).b
 have d3:=h.d3
 have e1:=ax2 hb p0 p3
 rw [hd,hdw] at e1
 have hs:=(h.rg p0 (by omega)).2
 have hds:=Q3 hs
 have t0:=h.t0;have t1:=h.t
 have hp:=h.P p p0 (by omega)
 have ea : Ev (fun k=>U1.f k (o9 w p).f0 (o9 w p).f1 (o9 w p).f2 (o9 w p).f3 (o9 w p).f4 w.now) (U0 (o9 w p) w.now):=aF9 _ _ _ _ _ _ (by omega) (by omega)
 obtain ⟨s1,s2,s3,s4⟩:=bg6 (s:=o9 w p) (now:=w.now) hs (by omega)
 obtain ⟨sg,hsg⟩ : ∃ sg,agS (U0 (o9 w p) w.now) = sg:=⟨_,rfl⟩
 rw [hsg] at s1 s2 s3 s4
 have es : Ev (fun k=>N6.f k sg.f0 sg.f1 sg.f2 sg.f3 sg.f4) (an5 sg):=aH6 _ _ _ _ _ (by rw [s4];omega)
 have hpi : PI (T p) sg (y3 w p) (rd w.A p) w.file p:=⟨by rw [s2];exact hp.id,by rw [s3,s4];exact hp.tk,by rw [s3,s4];exact hp.ln,by rw [s3];exact hp.ak,hp.ti,hp.c,hp.h⟩
 have hw1:=aT1 h p0 p3 s1 hpi
 have hak:=h.K.ack_le p0 (by omega)
 have hsay:=aQ8 s1
 have hlen : (an5 sg).length = sg.f2.length:=by rw [hsay,List.length_map,List.length_zipIdx]
 have hsd:=Q3 s1
 have hfr : ∀ (j : Nat) x,(an5 sg)[j]? = some x→ae0 x = true∧x.f0 = 1∧x.f1 = p∧x.f2 = sg.f1 + (j : Int)∧TQ T x.f1 x.f2 x.f3:=by
  intro j x hx
  have hok:=aP0 s1 (by have:=h.K.ack_le p0 (by omega : p≤2);have:=hpi.ak;have:=(ao5 h.K (fun p p0 p2=>h.Tn p0 p2)).1;omega) x (List.mem_of_getElem? hx)
  rw [hsay,List.getElem?_map,List.getElem?_zipIdx] at hx
  cases e : sg.f2[j]? with
  | none=>rw [e] at hx;cases hx
  | some y=>
   rw [e] at hx
   have hx':=Option.some.inj hx
   subst hx'
   refine ⟨hok,rfl,hpi.id,?_,?_⟩
   ·show sg.f1 + ((0 + j : Nat) : Int) = _
    rw [Nat.zero_add]
   ·show TQ T sg.f0 (sg.f1 + ((0 + j : Nat) : Int)) y
    rw [Nat.zero_add]
    refine ⟨by omega,?_⟩
    have e':=e
    rw [← hpi.tk,List.getElem?_drop] at e'
    rw [hpi.id,show (sg.f1 + (j : Int) - 1).toNat = (sg.f1 - 1).toNat + j by omega]
    exact e'
 obtain ⟨w2,i1,i2,i3,i4,i5⟩:=bG5 (by omega) p0 (an5 sg) (by omega) sg.f1 hfr a1 c (false,tw w) (U0 (o9 w p) w.now) _ 0 _ rfl (Nat.zero_le _) hw1 hff (by show sg.f1 + ((0 : Nat) : Int)≤rd w.N p;rw [s3];have:=hp.ak;omega)
 have i6:=bn2 i1
 have hff2 : w2.file.length≤90:=by rw [i2.file];exact hff
 have hlog:=(ao5 i1.K (fun p p0 p2=>i1.Tn p0 p2))
 have hNp:=(hlog.2 p p0 (by omega)).2.1
 have hln:=hpi.ln
 have hN : rd w2.N p = ((T p).length : Int) + 1:=by omega
 have hTn:=i1.Tn p0 (by omega : p≤2)
 have hnf:=bF4 w2.file
 have hT90 : ((T p).length : Int)≤90:=by
  obtain rfl | rfl | rfl : p = 0∨p = 1∨p = 2:=by omega
  all_goals omega
 have hsd2 : o9 (ak6 w2) p = sg:=by
  show w2.d.getD p.toNat z48 = sg
  rw [i2.d]
  show (w.d.set p.toNat sg).getD p.toNat z48 = sg
  rw [ar4 p0 (by omega) p0,if_pos rfl]
 have hpi2:=i6.P p p0 (by omega)
 rw [hsd2] at hpi2
 have hA : rd (ak6 w2).A p = rd w2.N p:=rfl
 obtain ⟨a2,a3,_⟩:=bd7 hpi2 (q:=rd w2.N p) (by rw [hA];exact Int.le_refl _) s1 (by rw [hA];omega)
 have i7:=aT1 i6 p0 p3 a3 a2
 have hd2 : w2.d = w.d.set p.toNat sg:=i2.d
 have hemp : (tkA sg (rd w2.N p)).f2 = []:=by
  unfold tkA ak2
  by_cases hc : E3 sg.f0 sg.f1 sg.f2 sg.f3 sg.f4 = true∧sg.f1 + 1≤rd w2.N p∧rd w2.N p≤sg.f1 + sg.f2.length
  ·rw [if_pos hc]
   show sg.f2.drop (rd w2.N p - sg.f1).toNat = []
   exact List.drop_of_length_le (by omega)
  ·rw [if_neg hc]
   show sg.f2 = []
   have : ¬ (sg.f1 + 1≤rd w2.N p∧rd w2.N p≤sg.f1 + sg.f2.length):=fun h=>hc ⟨s1,h⟩
   exact List.eq_nil_of_length_eq_zero (by omega)
 have d32 : w2.d.length = 3:=i1.d3
 refine ⟨{ ak6 w2 with d:=(ak6 w2).d.set p.toNat (tkA sg (rd w2.N p)) },⟨i7,i2.file,i2.now,?_,hN,?_,?_⟩,fun r hr=>?_⟩
 ·show (((ak6 w2).d.set p.toNat (tkA sg (rd w2.N p))).getD p.toNat z48).f2 = []
  rw [ar4 p0 (by show p < (w2.d.length : Int);omega) p0,if_pos rfl];exact hemp
 ·have : y3 { ak6 w2 with d:=(ak6 w2).d.set p.toNat (tkA sg (rd w2.N p)) } p = y3 w p:=by
   show w2.r.getD p.toNat z50 = w.r.getD p.toNat z50
   rw [i2.r]
  rw [this]
  omega
 ·intro q q0 hq
  refine ⟨rfl,?_,?_,i4 q q0 hq⟩
  ·show ((ak6 w2).d.set p.toNat (tkA sg (rd w2.N p))).getD q.toNat z48 = _
   rw [ar4 p0 (by show p < (w2.d.length : Int);omega) q0,if_neg hq]
   show w2.d.getD q.toNat z48 = _
   rw [hd2,ar4 p0 (by omega) q0,if_neg hq];rfl
  ·show w2.r.getD q.toNat z50 = _
   rw [i2.r];rfl
 ·have hkN : w2.N.length = 3:=i1.K.hN
  have hsm:=(i1.ws (by omega)).b.k
  have e2:=aO1 hsm w2.a
  have e3:=aI7 w2.L w2.N w2.E (w2.L.length : Int) w2.N (by omega) p
  have e4 : aY0 w2.N p = (2,p,rd w2.N p,0,0,0,0,true):=by unfold aY0;rw [if_pos ⟨p0,by omega⟩]
  rw [e4] at e3
  have e5:=aF8 sg.f0 sg.f1 sg.f2 sg.f3 sg.f4 (rd w2.N p) (by rw [s4];omega)
  refine Ev.step (fun _=>rfl) ?_
  simp only [m5.l0]
  refine Ev.bind e1 (Ev.neg (fun h=>(by cases h)) (Ev.pos p0 (Ev.pos (by show p < (w.d.length : Int);omega) (Ev.bind ea ?_))))
  have es2:=es
  rw [← hsg] at es2
  refine Ev.bind es2 ?_
  have hsg2:=hsg
  rw [hsg]
  refine i5 r ?_
  refine Ev.step (fun _=>rfl) ?_
  simp only [m5.l1]
  refine Ev.neg (by omega) (Ev.bindc e2 (Ev.bindc e3 (Ev.pos rfl (Ev.pos (by show p < ((w.d.set p.toNat _).length : Int);rw [List.length_set];omega) ?_))))
  have hset : (⟨(U0 (o9 w p) w.now).1,(U0 (o9 w p) w.now).2.1,(U0 (o9 w p) w.now).2.2.1,(U0 (o9 w p) w.now).2.2.2.1,(U0 (o9 w p) w.now).2.2.2.2.1⟩ : Sd) = sg:=hsg
  rw [hset]
  have hrd : I0 ((tw w).2.2.1.set p.toNat sg) p = sg:=bR1 p0 (by show p < (w.d.length : Int);omega)
  refine Ev.bind (by rw [hrd];exact e5) ?_
  rw [m7 (x:=p + 1) (by omega) (by omega)]
  have hr2:=hr
  unfold ak6 at hr2
  rw [i2.s,i2.r,hd2,i2.net,i2.now,i2.res,i2.file] at hr2
  exact hr2
theorem aX0 (p : Int) (p0 : 0≤p) (p3 : p < 3) (a1 c : Int) : ∀ (m : Nat) (T : Int→List It) (n : Nat) (w : Wv),3 - (o9 w p).f2.length = m→WI T n w→n≤140→w.file.length≤90 →
 ∃ T' w',aX4 T T' n w w' p∧∀ r,Ev (fun k=>m5.l2 k a1 c w'.s w'.r w'.d w'.L w'.N w'.E w'.a w'.A w'.net w'.now w'.res w'.file (p + 1)) r→Ev (fun k=>m5.l0 k a1 c p w.s w.r w.d w.L w.N w.E w.a w.A w.net w.now w.res w.file) r:=by
 intro m
 induction m with
 | zero=>
  intro T n w hm h hn hff
  obtain ⟨T1,k1,k2⟩:=aG7 h (by omega) p0 p3
  have hs:=Q3 (h.rg p0 (by omega)).2
  rcases k2 with ⟨k2,_,k3,k4⟩ | ⟨_,k3,_⟩
  ·obtain ⟨w',h1,h2⟩:=bk9 h hn hff p0 p3 k2 k3 k4 a1 c
   exact ⟨T,w',h1,h2⟩
  ·omega
 | succ m ih=>
  intro T n w hm h hn hff
  obtain ⟨T1,k1,k2⟩:=aG7 h (by omega) p0 p3
  rcases k2 with ⟨k2,_,k3,k4⟩ | ⟨k2,k3,k4,k5,k6⟩
  ·obtain ⟨w',h1,h2⟩:=bk9 h hn hff p0 p3 k2 k3 k4 a1 c
   exact ⟨T,w',h1,h2⟩
  ·obtain ⟨T',w',h1,h2⟩:=ih T1 n (Q1 w p).2 (by omega) k1 hn hff
   refine ⟨T',w',⟨h1.i,h1.file,h1.now,h1.none,h1.N,by have:=h1.C;omega,fun q q0 hq=>?_⟩,fun r hr=>?_⟩
   ·obtain ⟨a,b,c,d⟩:=h1.O q q0 hq
    obtain ⟨a',b',c'⟩:=k6 q q0 hq
    exact ⟨a.trans a',b.trans b',c.trans c',d⟩
   ·have e1:=ax2 (h.ws (by omega)).b p0 p3
    rw [k2] at e1
    refine Ev.step (fun _=>rfl) ?_
    simp only [m5.l0]
    exact Ev.bind e1 (Ev.pos rfl (h2 r hr))
structure ak8 (T : Int→List It) (w : Wv) (p : Int) (k : Nat) : Prop where
 none : (o9 w p).f2 = []
 N : rd w.N p = ((T p).length : Int) + 1
 C : rgC (y3 w p)≤k
theorem bV8 {T : Int→List It} {n : Nat} {w : Wv} (h : WI T n w) {p : Int} (p0 : 0≤p) (p2 : p≤2) : rgC (y3 w p)≤5:=by
 have hr:=R2 (h.rg p0 p2).1
 unfold rgC
 split <;> omega
theorem aX4.keep {T T' : Int→List It} {n : Nat} {w w' : Wv} {p q : Int} (h : aX4 T T' n w w' p) (q0 : 0≤q) (hq : q≠p) {k : Nat} (d : ak8 T w q k) : ak8 T' w' q k:=by
 obtain ⟨a,b,c,e⟩:=h.O q q0 hq
 exact ⟨by rw [b];exact d.none,by rw [e,a];exact d.N,by rw [c];exact d.C⟩
theorem bN1 {T : Int→List It} {n : Nat} {w : Wv} (h : WI T n w) (hn : n≤135) (hff : w.file.length≤90) (a1 c : Int) (kk : Nat) (hk : kk≤5) (h0 : kk = 5∨∀ p,0≤p→p≤2→ak8 T w p (kk + 3)) :
 ∃ T' w',WI T' (n + 4) w'∧w'.file = w.file∧(∀ p,0≤p→p≤2→ak8 T' w' p kk)∧∀ r,Ev (fun k=>m5.l3 k a1 w'.s w'.r w'.d w'.L w'.N w'.E w'.a w'.A w'.net w'.now w'.res w'.file (wrap64 (c + 1))) r→c < max 0 (min a1 40)→Ev (fun k=>m5.l3 k a1 w.s w.r w.d w.L w.N w.E w.a w.A w.net w.now w.res w.file c) r:=by
 have i0:=bb8 h (m:=5) (by omega)
 have one : ∀ (T : Int→List It) (n : Nat) (w w' : Wv) (T' : Int→List It) (p : Int),0≤p→p≤2→WI T n w→aX4 T T' n w w' p→(kk = 5∨ak8 T w p (kk + 3))→ak8 T' w' p kk:=by
  intro T n w w' T' p p0 p2 hw t hd
  refine ⟨t.none,t.N,?_⟩
  have hC:=t.C
  rcases hd with hd | hd
  ·have:=bV8 hw p0 p2;omega
  ·have h1:=hd.C;have h2:=hd.none;rw [h2] at hC;simp only [List.length_nil] at hC;omega
 have l0 : ∀ p,0≤p→p≤2→(kk = 5∨ak8 T (aj8 w 5) p (kk + 3)):=by
  intro p p0 p2
  rcases h0 with h0 | h0
  ·exact .inl h0
  ·refine .inr ?_
   have d:=h0 p p0 p2
   have e : y3 (aj8 w 5) p = bb0 5 (y3 w p):=by
    have r3:=h.r3
    unfold y3 aj8
    dsimp only
    rw [List.getD_eq_getElem?_getD,List.getD_eq_getElem?_getD,List.getElem?_map,List.getElem?_eq_getElem (by omega)];rfl
   exact ⟨d.none,d.N,by rw [e];exact d.C⟩
 obtain ⟨T1,w1,t1,e1⟩:=aX0 0 (by omega) (by omega) a1 c _ T (n + 1) (aj8 w 5) rfl i0 (by omega) hff
 have f1 : w1.file = w.file:=t1.file
 obtain ⟨T2,w2,t2,e2⟩:=aX0 1 (by omega) (by omega) a1 c _ T1 (n + 2) w1 rfl t1.i (by omega) (by rw [f1];exact hff)
 have f2 : w2.file = w.file:=t2.file.trans f1
 obtain ⟨T3,w3,t3,e3⟩:=aX0 2 (by omega) (by omega) a1 c _ T2 (n + 3) w2 rfl t2.i (by omega) (by rw [f2];exact hff)
 have move : ∀ {T T' : Int→List It} {n : Nat} {w w' : Wv} {p q : Int},aX4 T T' n w w' p→0≤q→q≠p→(kk = 5∨ak8 T w q (kk + 3))→(kk = 5∨ak8 T' w' q (kk + 3)):=fun t q0 hq hd=>hd.imp id (fun d=>t.keep q0 hq d)
 have d0:=one _ _ _ _ _ 0 (by omega) (by omega) i0 t1 (l0 0 (by omega) (by omega))
 have d1:=one _ _ _ _ _ 1 (by omega) (by omega) t1.i t2 (move t1 (by omega) (by omega) (l0 1 (by omega) (by omega)))
 have d2:=one _ _ _ _ _ 2 (by omega) (by omega) t2.i t3 (move t2 (by omega) (by omega) (move t1 (by omega) (by omega) (l0 2 (by omega) (by omega))))
 refine ⟨T3,w3,t3.i,t3.file.trans f2,?_,fun r hr hlt=>?_⟩
 ·intro p p0 p2
  obtain rfl | rfl | rfl : p = 0∨p = 1∨p = 2:=by omega
  ·exact t3.keep (by omega) (by omega) (t2.keep (by omega) (by omega) d0)
  ·exact t3.keep (by omega) (by omega) d1
  ·exact d2
 ·have el:=aI6 (h.ws (by omega)).b (n:=5) (by omega)
  refine Ev.step (fun _=>rfl) ?_
  simp only [m5.l3]
  refine Ev.pos hlt (Ev.bind el ?_)
  refine Ev.step (fun _=>rfl) ?_
  simp only [m5.l2]
  refine Ev.pos (by omega) (e1 r ?_)
  refine Ev.step (fun _=>rfl) ?_
  simp only [m5.l2]
  refine Ev.pos (by omega) (e2 r ?_)
  refine Ev.step (fun _=>rfl) ?_
  simp only [m5.l2]
  refine Ev.pos (by omega) (e3 r ?_)
  refine Ev.step (fun _=>rfl) ?_
  simp only [m5.l2]
  exact Ev.neg (by omega) hr
theorem aQ1 {T : Int→List It} {n : Nat} {w : Wv} (h : WI T n w) (hn : n≤90) : ∃ T' w',WI T' (n + 32) w'∧w'.file = w.file∧(∀ p,0≤p→p≤2→ak8 T' w' p 0)∧Ev (fun k=>m5.f k w.s w.r w.d w.L w.N w.E w.a w.A w.net w.now w.res w.file 8) (tw { w' with net:=[] }):=by
 have hff : w.file.length≤90:=by have:=h.fi;omega
 have key : ∀ (m : Nat) (j : Nat),8 - j = m→j≤8→∀ (T : Int→List It) (v : Wv),WI T (n + 4 * j) v→v.file = w.file→(j = 0∨∀ p,0≤p→p≤2→ak8 T v p (5 - 3 * (j - 1))) →
  ∃ T' w',WI T' (n + 32) w'∧w'.file = w.file∧(∀ p,0≤p→p≤2→ak8 T' w' p 0)∧Ev (fun k=>m5.l3 k 8 v.s v.r v.d v.L v.N v.E v.a v.A v.net v.now v.res v.file (j : Int)) (tw { w' with net:=[] }):=by
  intro m
  induction m with
  | zero=>
   intro j hm hj T v hv hf hd
   have : j = 8:=by omega
   subst this
   refine ⟨T,v,hv,hf,?_,?_⟩
   ·rcases hd with hd | hd
    ·omega
    ·exact hd
   ·refine Ev.step (fun _=>rfl) ?_
    simp only [m5.l3]
    exact Ev.neg (by omega) (Ev.now _)
  | succ m ih=>
   intro j hm hj T v hv hf hd
   obtain ⟨T1,w1,k1,k2,k3,k4⟩:=bN1 hv (by omega) (by rw [hf];exact hff) 8 (j : Int) (5 - 3 * j) (by omega) (by
    rcases hd with hd | hd
    ·left;omega
    ·by_cases h5 : j = 0
     ·left;omega
     ·right;intro p p0 p2
      have d:=hd p p0 p2
      exact ⟨d.none,d.N,by have:=d.C;omega⟩)
   obtain ⟨T',w',m1,m2,m3,m4⟩:=ih (j + 1) (by omega) (by omega) T1 w1 (by rw [show n + 4 * (j + 1) = n + 4 * j + 4 by omega];exact k1) (k2.trans hf) (.inr (by simpa using k3))
   refine ⟨T',w',m1,m2,m3,k4 _ ?_ (by omega)⟩
   rw [m7 (x:=(j : Int) + 1) (by omega) (by omega)]
   exact m4
 obtain ⟨T',w',m1,m2,m3,m4⟩:=key 8 0 rfl (by omega) T w h rfl (.inl rfl)
 refine ⟨T',w',m1,m2,m3,?_⟩
 have hb:=(h.ws (by omega)).b
 have t:=hb.t
 have s3:=h.s3;have r3:=h.r3;have d3:=h.d3
 have e0 : H9.f w.s w.r w.d w.L w.N w.E w.a w.A w.net w.now w.res w.file = some true:=by
  unfold H9.f
  rw [if_pos (by omega),if_pos (by omega)]
  refine congrArg some ?_
  simp;omega
 unfold m5.f
 exact Ev.bind (au3 hb) (Ev.bindc (M2 _ _ _) (Ev.pos (decide_eq_true t) (Ev.bindc e0 (Ev.pos rfl m4))))
end Go.Proofs.YtahmbcgolnplgaaGreat.PFnNoHoles
namespace Go.Proofs.YtahmbcgolnplgaaGreat.PFnNoHoles
open Go Go.RowKit Go.Proofs.YtahmbcgolnplgaaGreatA Go.Proofs.YtahmbcgolnplgaaGreatL
theorem bE3 (x : Int) : 0≤bits .and .i64 x 255∧bits .and .i64 x 255≤255:=by
 have h : bits .and .i64 x 255 = (((BitVec.ofInt 64 x).toNat &&& 255 : Nat) : Int):=by
  show IntKind.i64.wrap (((BitVec.ofInt 64 x) &&& (BitVec.ofInt 64 255)).toNat : Int) = _
  rw [BitVec.toNat_and]
  have : (BitVec.ofInt 64 255).toNat = 255:=by decide
  rw [this,IntKind.wrap_i64]
  have h2 : (BitVec.ofInt 64 x).toNat &&& 255≤255:=Nat.and_le_right
  omega
 rw [h]
 have h2 : (BitVec.ofInt 64 x).toNat &&& 255≤255:=Nat.and_le_right
 omega
def Rd (b : List Int) (i : Int) : Prop:=b.length≤1048576∧0≤i∧i≤(b.length : Int)
theorem bB7 (b : List Int) (hb : b.length≤1048576) : ∃ s,Ev (fun k=>M8.f k b) (b,0,s):=by
 have key : ∀ (d i : Nat) (s : Int),b.length - i = d→i≤b.length→∃ s',Ev (fun k=>M8.l0 k b s (i : Int)) (b,0,s'):=by
  intro d
  induction d with
  | zero=>
   intro i s hd hi
   refine ⟨s,Ev.step (fun _=>rfl) ?_⟩
   simp only [M8.l0];exact Ev.neg (by omega) (Ev.now _)
  | succ d ih=>
   intro i s hd hi
   by_cases h : (i : Int) < 4000
   ·obtain ⟨s',h'⟩:=ih (i + 1) (bits .and .i64 (wrap64 ((wrap64 ((wrap64 (s * 131)) + (wrap64 (rd b i)))) + 7)) 1073741823) (by omega) (by omega)
    refine ⟨s',Ev.step (fun _=>rfl) ?_⟩
    simp only [M8.l0];rw [m7 (x:=(i : Int) + 1) (by omega) (by omega)]
    exact Ev.pos (by omega) (Ev.pos h (Ev.pos (by omega) h'))
   ·refine ⟨s,Ev.step (fun _=>rfl) ?_⟩
    simp only [M8.l0];exact Ev.pos (by omega) (Ev.neg h (Ev.now _))
 exact key b.length 0 _ rfl (Nat.zero_le _)
theorem at1 (b : List Int) (i s : Int) (h : Rd b i) : ∃ v i' s',K6.f b i s = some (v,b,i',s')∧Rd b i'∧0≤v∧v≤255:=by
 unfold K6.f
 by_cases hi : i < (b.length : Int)
 ·rw [if_pos hi,if_pos h.2.1]
  exact ⟨_,_,_,rfl,⟨h.1,by rw [m7 (by have:=h.1;have:=h.2.1;omega) (by have:=h.1;omega)];have:=h.2.1;omega,by rw [m7 (by have:=h.1;have:=h.2.1;omega) (by have:=h.1;omega)];omega⟩,bE3 _⟩
 ·rw [if_neg hi]
  exact ⟨_,_,_,rfl,h,bE3 _⟩
theorem bv1 {v n : Int} (h : 0≤v) (hn : 0 < n) : 0≤v.tmod n∧v.tmod n < n:=⟨Int.tmod_nonneg _ h,Int.tmod_lt_of_pos _ hn⟩
theorem aq2 (b : List Int) (i s n : Int) (h : Rd b i) (hn : 0 < n) : ∃ v i' s',n9.f b i s n = some (v,b,i',s')∧Rd b i'∧0≤v∧v < n:=by
 unfold n9.f
 rw [if_neg (by omega)]
 obtain ⟨v1,i1,s1,e1,h1,b1⟩:=at1 b i s h
 obtain ⟨v2,i2,s2,e2,h2,b2⟩:=at1 b i1 s1 h1
 obtain ⟨v3,i3,s3,e3,h3,b3⟩:=at1 b i2 s2 h2
 obtain ⟨v4,i4,s4,e4,h4,b4⟩:=at1 b i3 s3 h3
 by_cases hn2 : n≤256
 ·rw [if_pos hn2,e1]
  simp only [Option.bind_some]
  rw [if_pos (by omega)]
  exact ⟨_,_,_,rfl,h1,bv1 b1.1 hn⟩
 ·rw [if_neg hn2,e1]
  simp only [Option.bind_some,e2,e3,e4]
  rw [if_pos (by omega)]
  refine ⟨_,_,_,rfl,h4,bv1 ?_ hn⟩
  rw [m7 (x:=v1 * 16777216) (by omega) (by omega),m7 (x:=v2 * 65536) (by omega) (by omega),m7 (x:=v1 * 16777216 + v2 * 65536) (by omega) (by omega),m7 (x:=v3 * 256) (by omega) (by omega),m7 (x:=v1 * 16777216 + v2 * 65536 + v3 * 256) (by omega) (by omega),m7 (by omega) (by omega)]
  omega
theorem aG3 (b : List Int) (i s : Int) (l : List Int) (h : Rd b i) (hl : 0 < l.length) : ∃ v i' s',B4.f b i s l = some (v,b,i',s')∧Rd b i'∧v ∈ l:=by
 obtain ⟨v,i',s',e,h',h0,h1⟩:=aq2 b i s l.length h (by omega)
 unfold B4.f
 rw [e]
 simp only [Option.bind_some]
 rw [if_pos h0,if_pos h1]
 refine ⟨_,_,_,rfl,h',?_⟩
 have hv : v.toNat < l.length:=by omega
 unfold rd
 rw [List.getD_eq_getElem?_getD,List.getElem?_eq_getElem hv]
 exact List.getElem_mem hv
theorem bx9 (b : List Int) (i s n : Int) (h : Rd b i) (hn : 0 < n) : ∃ (v : Bool) (i' s' : Int),L9.f b i s n = some (v,b,i',s')∧Rd b i':=by
 obtain ⟨v,i',s',e,h',h0,h1⟩:=aq2 b i s n h hn
 exact ⟨_,_,_,by unfold L9.f;rw [e];rfl,h'⟩
section
variable {α : Type} {P : α→Prop} {b : List Int} {i s n : Int}
theorem j9.below {f : Nat→(Int×List Int×Int×Int)→Option α} (h : Rd b i) (hn : 0 < n) (k : ∀ v i' s',Rd b i'→0≤v→v < n→j9 (fun m=>f m (v,b,i',s')) P) : j9 (fun m=>(n9.f b i s n).bind (f m)) P:=by
 obtain ⟨v,i',s',e,h',h0,h1⟩:=aq2 b i s n h hn
 exact j9.bindc1 e (k v i' s' h' h0 h1)
theorem j9.once {f : Nat→(Bool×List Int×Int×Int)→Option α} (h : Rd b i) (hn : 0 < n) (k : ∀ v i' s',Rd b i'→j9 (fun m=>f m (v,b,i',s')) P) : j9 (fun m=>(L9.f b i s n).bind (f m)) P:=by
 obtain ⟨v,i',s',e,h'⟩:=bx9 b i s n h hn
 exact j9.bindc1 e (k v i' s' h')
theorem j9.pick {l : List Int} {f : Nat→(Int×List Int×Int×Int)→Option α} (h : Rd b i) (hl : 0 < l.length) (k : ∀ v i' s',Rd b i'→v ∈ l→j9 (fun m=>f m (v,b,i',s')) P) : j9 (fun m=>(B4.f b i s l).bind (f m)) P:=by
 obtain ⟨v,i',s',e,h',h0⟩:=aG3 b i s l h hl
 exact j9.bindc1 e (k v i' s' h' h0)
end
theorem bz8 (b : List Int) (i s : Int) (h : Rd b i) : ∃ (v : Int) (i' s' : Int),R7.f b i s = some (v,b,i',s')∧Rd b i'∧0≤v∧v≤4294967295:=by
 obtain ⟨v,i1,s1,e1,h1,b1,b2⟩:=aq2 b i s 12 h (by omega)
 obtain ⟨w,i2,s2,e2,h2,m2⟩:=aG3 b i1 s1 [0,1,2,3,5,7,255,4294967295,2147483648,v] h1 (by simp)
 refine ⟨w,i2,s2,?_,h2,?_⟩
 ·unfold R7.f
  rw [e1]
  simp only [Option.bind_some]
  rw [e2];rfl
 ·simp only [List.mem_cons,List.not_mem_nil,or_false] at m2
  omega
section
variable {α : Type} {P : α→Prop} {b : List Int} {i s : Int}
theorem j9.half {f : Nat→(Int×List Int×Int×Int)→Option α} (h : Rd b i) (k : ∀ v i' s',Rd b i'→0≤v→v≤4294967295→j9 (fun m=>f m (v,b,i',s')) P) : j9 (fun m=>(R7.f b i s).bind (f m)) P:=by
 obtain ⟨v,i',s',e,h',h0,h1⟩:=bz8 b i s h
 exact j9.bindc1 e (k v i' s' h' h0 h1)
end
theorem aA6 (b : List Int) (i s : Int) (h : Rd b i) : j9 (fun _=>Q2.f b i s) (fun r=>∃ (x y i' s' : Int),r = (x,y,b,i',s')∧Rd b i'∧(0≤x∧x≤4294967295)∧0≤y∧y≤4294967295):=by
 unfold Q2.f
 refine j9.half h (fun v i1 s1 h1 v0 v1=>j9.once h1 (by omega) (fun w i2 s2 h2=>?_))
 refine j9.both (fun _=>?_) (fun _=>j9.now ⟨_,_,_,_,rfl,h2,by first | omega | (dsimp only;omega),v0,v1⟩)
 exact j9.half h2 (fun u i3 s3 h3 u0 u1=>j9.now ⟨_,_,_,_,rfl,h3,⟨u0,u1⟩,v0,v1⟩)
theorem j9.ofc {α β : Type} {a : Option α} {P : α→Prop} {R : β→Prop} {f : Nat→α→Option β} (h : j9 (fun _=>a) P) (k : ∀ x,P x→j9 (fun n=>f n x) R) : j9 (fun n=>a.bind (f n)) R:=j9.bind h k
theorem bq3 (b : List Int) (i s : Int) (h : Rd b i) : j9 (fun k=>M1.f k b i s) (fun r=>∃ (x y : Int) (l : List r7) (i' s' : Int),r = (x,y,l,b,i',s')∧Rd b i'∧l.length = 3∧(∀ w ∈ l,(0≤w.f0∧w.f0≤4294967295)∧0≤w.f1∧w.f1≤4294967295)∧(0≤x∧x≤4294967295)∧0≤y∧y≤4294967295):=by
 unfold M1.f
 refine j9.pick h (by simp) (fun v i1 s1 h1 hv=>j9.pick h1 (by simp) (fun w i2 s2 h2 hw=>?_))
 have hv' : 0≤v∧v≤4294967295:=by simp at hv;omega
 have hw' : 0≤w∧w≤4294967295:=by simp at hw;omega
 clear hv hw
 refine j9.up (fun k (t : Int×Int×List r7) j=>M1.l0 k (v,b,i1,s1) (w,b,i2,s2) b t.1 t.2.1 t.2.2 j) 3 (fun j t=>Rd b t.1∧t.2.2.length = j∧∀ w ∈ t.2.2,(0≤w.f0∧w.f0≤4294967295)∧0≤w.f1∧w.f1≤4294967295) ?_ (i2,s2,[]) ⟨h2,rfl,fun w hw=>by simp at hw⟩
 rintro j ⟨i3,s3,q⟩ hj ⟨hr,hl,hq⟩ next
 replace hr : Rd b i3:=hr
 replace hl : q.length = j:=hl
 replace hq : ∀ w ∈ q,(0≤w.f0∧w.f0≤4294967295)∧0≤w.f1∧w.f1≤4294967295:=hq
 refine j9.step (fun _=>rfl) ?_
 simp only [M1.l0]
 rw [m7 (x:=(j : Int) + 1) (by omega) (by omega)]
 refine j9.both (fun hlt=>?_) (fun hge=>j9.now ⟨_,_,_,_,_,rfl,hr,by omega,hq,hv',hw'⟩)
 refine j9.bind (aA6 b i3 s3 hr) ?_
 rintro _ ⟨x,y,i4,s4,rfl,h4,hx,hy⟩
 refine j9.grd (by simp;omega) ?_
 refine next (i4,s4,q ++ [⟨x,y⟩]) (by omega) ⟨h4,by simp;omega,fun w hw=>?_⟩
 rcases List.mem_append.1 hw with hw | hw
 ·exact hq w hw
 ·rw [List.mem_singleton] at hw;subst hw;exact ⟨hx,hy⟩
theorem aU0 {α : Type} {p : Nat→α→Bool} : ∀ (xs : List α) (i : Nat),(∀ j x,xs[j]? = some x→p (i + j) x = true)→T8 p i xs = true
 | [],_,_=>rfl
 | x :: r,i,h=>by
  simp only [T8,Bool.and_eq_true]
  exact ⟨h 0 x rfl,aU0 r (i + 1) fun j y hy=>by have:=h (j + 1) y (by simpa using hy);rwa [show i + (j + 1) = i + 1 + j by omega] at this⟩
theorem bB9 {q : List Int} {t x : Int} (h : T8 (ar5 q) 0 q = true) (hq : ∀ y ∈ q,0≤y∧y < t) (h0 : 0≤t) (hx : t≤x) (hb : x≤4294967295) : T8 (ar5 (q ++ [x])) 0 (q ++ [x]) = true:=by
 refine aU0 _ 0 fun j y hy=>?_
 rw [Nat.zero_add]
 rcases Nat.lt_or_ge j q.length with hj | hj
 ·rw [List.getElem?_append_left hj] at hy
  have h1:=aI4 q 0 h j y hy
  rw [Nat.zero_add] at h1
  unfold ar5 at h1 ⊢
  have e : (q ++ [x]).getD (j - 1) 0 = q.getD (j - 1) 0:=by rw [List.getD_eq_getElem?_getD,List.getD_eq_getElem?_getD,List.getElem?_append_left (by omega)]
  rw [e];exact h1
 ·have hj' : j = q.length:=by
   have:=(List.getElem?_eq_some_iff.1 hy).1
   simp at this;omega
  subst hj'
  rw [List.getElem?_append_right (Nat.le_refl _),Nat.sub_self] at hy
  have hy' : x = y:=by simpa using hy
  subst hy'
  unfold ar5
  rw [decide_eq_true (by omega : 0≤x∧x≤4294967295),Bool.true_and]
  by_cases h1 : q.length = 0
  ·rw [decide_eq_true h1];rfl
  ·have e : (q ++ [x]).getD (q.length - 1) 0 ∈ q:=by
    rw [List.getD_eq_getElem?_getD,List.getElem?_append_left (by omega),List.getElem?_eq_getElem (by omega)]
    exact List.getElem_mem _
   have:=hq _ e
   rw [decide_eq_true (by omega : (q ++ [x]).getD (q.length - 1) 0 < x),Bool.or_true]
abbrev bY1:=Int×Int×Int×Int×Int×Int×List Int×Int×Int
theorem bq4 (b : List Int) (i s : Int) (h : Rd b i) : j9 (fun _=>ab5.f b i s) (fun r : bY1=>∃ (c : B9) (i' s' : Int),r = (c.f0,c.f1.f0,c.f1.f1,c.f2,c.f3.f0,c.f3.f1,b,i',s')∧Rd b i'∧U7 c = true):=by
 unfold ab5.f
 refine j9.below h (by omega) (fun v i1 s1 h1 v0 v1=>j9.below h1 (by omega) (fun u i2 s2 h2 u0 u1=>j9.bind (aA6 b i2 s2 h2) ?_))
 rintro _ ⟨x,y,i3,s3,rfl,h3,hx,hy⟩
 have fin : ∀ (m1 m2 i' s' : Int),Rd b i'→(0≤m1∧m1≤4294967295)→(0≤m2∧m2≤4294967295)→∃ (c : B9) (i'' s'' : Int),(v,m1,m2,wrap64 (1 + u),x,y,b,i',s') = (c.f0,c.f1.f0,c.f1.f1,c.f2,c.f3.f0,c.f3.f1,b,i'',s'')∧Rd b i''∧U7 c = true:=fun m1 m2 i' s' hr g1 g2=>by
  refine ⟨⟨v,⟨m1,m2⟩,wrap64 (1 + u),⟨x,y⟩⟩,i',s',rfl,hr,?_⟩
  unfold U7 ak4
  dsimp only
  rw [m7 (x:=1 + u) (by omega) (by omega),decide_eq_true (by omega : 0≤v∧v≤2),decide_eq_true g1,decide_eq_true g2,decide_eq_true hx,decide_eq_true hy,decide_eq_true (by omega : 1≤1 + u∧1 + u≤6)]
  rfl
 refine j9.once h3 (by omega) (fun o i4 s4 h4=>j9.both (fun _=>j9.bind (aA6 b i4 s4 h4) ?_) (fun _=>j9.now (fin _ _ _ _ h4 (by omega) (by omega))))
 rintro _ ⟨x',y',i5,s5,rfl,h5,hx',hy'⟩
 exact j9.now (fin _ _ _ _ h5 hx' hy')
abbrev bX8:=List Int×List B9×Int×Int×List Int×Int×Int
def bv7 (b : List Int) (r : bX8) : Prop:=∃ (q : D9) (i' s' : Int),r = (q.f0,q.f1,q.f2,q.f3,b,i',s')∧Rd b i'∧an2 q = true∧q.f0.length≤3∧q.f1.length≤3
theorem be9 (b : List Int) (t1 : Int×List Int×Int×Int) (d i s : Int) (ns : List Int) (h : Rd b i) (hn : ns.length≤3) (hns : T8 (ar5 ns) 0 ns = true) (ha : an8 t1.1 d = true) : j9 (fun k=>y0.l1 k t1 d ns b i s [] 0) (bv7 b):=by
 refine j9.up (fun k (t : Int×Int×List B9) j=>y0.l1 k t1 d ns b t.1 t.2.1 t.2.2 j) 3 (fun j t=>Rd b t.1∧t.2.2.length = j∧t.2.2.all U7 = true) ?_ (i,s,[]) ⟨h,rfl,rfl⟩
 rintro j ⟨i3,s3,q⟩ hj ⟨hr,hl,hq⟩ next
 replace hr : Rd b i3:=hr
 replace hl : q.length = j:=hl
 replace hq : q.all U7 = true:=hq
 refine j9.step (fun _=>rfl) ?_
 simp only [y0.l1]
 rw [m7 (x:=(j : Int) + 1) (by omega) (by omega)]
 refine j9.below hr (by omega) (fun v i4 s4 h4 v0 v1=>j9.both (fun hlt=>?_) (fun hge=>j9.now ⟨⟨ns,q,t1.1,d⟩,_,_,rfl,h4,?_,hn,by show q.length≤3;omega⟩))
 ·refine j9.bind (bq4 b i4 s4 h4) ?_
  rintro _ ⟨c,i5,s5,rfl,h5,hc⟩
  refine j9.grd (by simp;omega) ?_
  have hlt' : (j : Int) < v:=hlt
  exact next (i5,s5,q ++ [c]) (by omega) ⟨h5,by simp;omega,by show (q ++ [c]).all U7 = true;rw [List.all_append,hq];simp [hc]⟩
 ·unfold an2 aw0
  dsimp only
  rw [hns,hq,decide_eq_true (by omega : ns.length≤4),decide_eq_true (by omega : q.length≤3),ha]
  rfl
theorem br6 (b : List Int) (i s : Int) (h : Rd b i) : j9 (fun k=>y0.f k b i s) (bv7 b):=by
 unfold y0.f
 have j0 : ∀ (a d i1 s1 : Int) (t1 : Int×List Int×Int×Int),t1.1 = a→Rd b i1→an8 a d = true→j9 (fun k=>y0.j0 k t1 b i1 s1 d) (bv7 b):=by
  intro a d i1 s1 t1 ht h1 ha
  refine j9.step (fun _=>rfl) ?_
  simp only [y0.j0]
  refine j9.below h1 (by omega) (fun v i2 s2 h2 v0 v1=>?_)
  refine j9.up (fun k (t : Int×Int×List Int×Int) j=>y0.l0 k t1 d (v,b,i2,s2) b t.1 t.2.1 t.2.2.1 t.2.2.2 j) 3 (fun j t=>Rd b t.1∧t.2.2.1.length = j∧T8 (ar5 t.2.2.1) 0 t.2.2.1 = true∧(∀ y ∈ t.2.2.1,0≤y∧y < t.2.2.2)∧0≤t.2.2.2∧t.2.2.2≤3 * (j : Int)) ?_ (i2,s2,[],0) ⟨h2,rfl,rfl,fun y hy=>by simp at hy,by first | omega | (dsimp only;omega),by first | omega | (dsimp only;omega)⟩
  rintro j ⟨i3,s3,q,at'⟩ hj ⟨hr,hl,hq,hy,ha0,ha1⟩ next
  replace hr : Rd b i3:=hr
  replace hl : q.length = j:=hl
  replace hq : T8 (ar5 q) 0 q = true:=hq
  replace hy : ∀ y ∈ q,0≤y∧y < at':=hy
  replace ha0 : 0≤at':=ha0
  replace ha1 : at'≤3 * (j : Int):=ha1
  refine j9.step (fun _=>rfl) ?_
  simp only [y0.l0]
  rw [m7 (x:=(j : Int) + 1) (by omega) (by omega),m7 (x:=v - 1) (by omega) (by omega),m7 (x:=at' + 1) (by omega) (by omega)]
  refine j9.both (fun hlt=>?_) (fun hge=>be9 b t1 d i3 s3 q hr (by omega) hq (by rw [ht];exact ha))
  refine j9.below hr (by omega) (fun u i4 s4 h4 u0 u1=>?_)
  rw [m7 (x:=at' + 1 + u) (by omega) (by omega),m7 (x:=at' + 1 + u - 1) (by omega) (by omega)]
  refine j9.grd (by simp;omega) ?_
  have hlt' : (j : Int) < v - 1:=hlt
  refine next (i4,s4,q ++ [at' + 1 + u - 1],at' + 1 + u) (by omega) ⟨h4,by simp;omega,bB9 hq hy ha0 (by omega) (by omega),fun y hy'=>?_,by first | omega | (dsimp only;omega),by first | omega | (dsimp only;omega)⟩
  show 0≤y∧y < at' + 1 + u
  rcases List.mem_append.1 hy' with hy' | hy'
  ·have:=hy y hy';omega
  ·rw [List.mem_singleton] at hy';omega
 refine j9.pick h (by simp) (fun v i1 s1 h1 hv=>j9.both (fun h2=>j9.pick h1 (by simp) (fun u i2 s2 h3 hu=>j0 v u i2 s2 _ rfl h3 ?_)) (fun h2=>j0 v 0 i1 s1 _ rfl h1 ?_))
 ·have h2' : v = 2:=h2
  simp at hu
  unfold an8
  rw [decide_eq_true (by omega : 0≤v∧v≤5),decide_eq_true (by omega : 0≤u∧u≤65535)];rfl
 ·simp at hv
  unfold an8
  rw [decide_eq_true (by omega : 0≤v∧v≤5)];rfl
abbrev bW2:=Int×Int×Int×List D9×List Int×Int×Int
theorem bf8 (b : List Int) (i s : Int) (h : Rd b i) : j9 (fun k=>B8.f k b i s) (fun r : bW2=>∃ (a c d : Int) (l : List D9) (i' s' : Int),r = (a,c,d,l,b,i',s')∧Rd b i'∧Sm l∧l.length≤5∧ap5 a c d l = true):=by
 unfold B8.f
 have j0 : ∀ (a d i1 s1 : Int),Rd b i1→an8 a d = true→j9 (fun k=>B8.j0 k (a,b,i1,s1) d) (fun r : bW2=>∃ (a c d : Int) (l : List D9) (i' s' : Int),r = (a,c,d,l,b,i',s')∧Rd b i'∧Sm l∧l.length≤5∧ap5 a c d l = true):=by
  intro a d i1 s1 h1 ha
  refine j9.step (fun _=>rfl) ?_
  simp only [B8.j0]
  refine j9.up (fun k (t : Int×Int×List D9) j=>B8.l0 k (a,b,i1,s1) d b t.1 t.2.1 t.2.2 j) 5 (fun j t=>Rd b t.1∧t.2.2.length = j∧(∀ r ∈ t.2.2,r.f0.length≤1000∧r.f1.length≤1000)∧t.2.2.all an2 = true) ?_ (i1,s1,[]) ⟨h1,rfl,fun r hr=>by simp at hr,rfl⟩
  rintro j ⟨i3,s3,q⟩ hj ⟨hr,hl,hb,hq⟩ next
  replace hr : Rd b i3:=hr
  replace hl : q.length = j:=hl
  replace hb : ∀ r ∈ q,r.f0.length≤1000∧r.f1.length≤1000:=hb
  replace hq : q.all an2 = true:=hq
  refine j9.step (fun _=>rfl) ?_
  simp only [B8.l0]
  rw [m7 (x:=(j : Int) + 1) (by omega) (by omega)]
  refine j9.below hr (by omega) (fun v i4 s4 h4 v0 v1=>j9.both (fun hlt=>?_) (fun hge=>j9.now ⟨62,a,d,q,i4,s4,rfl,h4,⟨by omega,fun r hr=>⟨by have:=hb r hr;omega,by have:=hb r hr;omega⟩⟩,by omega,?_⟩))
  ·refine j9.bind (br6 b i4 s4 h4) ?_
   rintro _ ⟨c,i5,s5,rfl,h5,hc,g1,g2⟩
   refine j9.grd (by simp;omega) ?_
   have hlt' : (j : Int) < v:=hlt
   refine next (i5,s5,q ++ [c]) (by omega) ⟨h5,by simp;omega,fun r hr'=>?_,by show (q ++ [c]).all an2 = true;rw [List.all_append,hq];simp [hc]⟩
   rcases List.mem_append.1 hr' with hr' | hr'
   ·exact hb r hr'
   ·rw [List.mem_singleton] at hr';subst hr';exact ⟨by omega,by omega⟩
  ·unfold ap5 at6
   rw [hq,ha,decide_eq_true (by omega : q.length≤10)]
   rfl
 refine j9.pick h (by simp) (fun v i1 s1 h1 hv=>?_)
 simp at hv
 refine j9.both (fun h2=>j0 v 1 i1 s1 h1 ?_) (fun h2=>j0 v 0 i1 s1 h1 ?_)
 ·unfold an8
  rw [decide_eq_true (by omega : 0≤v∧v≤5)];rfl
 ·unfold an8
  rw [decide_eq_true (by omega : 0≤v∧v≤5)];rfl
theorem bo6 {α : Type} {p : Nat→α→Bool} : ∀ {xs : List α} {i j : Nat} {x : α},T8 p i xs = true→xs[j]? = some x→p (i + j) x = true
 | [],_,_,_,_,h=>by simp at h
 | y :: r,i,0,x,h,hx=>by
  rw [List.getElem?_cons_zero] at hx
  injection hx with hx;subst hx
  unfold T8 at h;rw [Bool.and_eq_true] at h;exact h.1
 | y :: r,i,j + 1,x,h,hx=>by
  rw [List.getElem?_cons_succ] at hx
  unfold T8 at h;rw [Bool.and_eq_true] at h
  have:=bo6 h.2 hx
  rwa [show i + 1 + j = i + (j + 1) by omega] at this
theorem j9.gcat {α : Type} {P : α→Prop} {a b : ByteArray} {m n : Nat} {f : Nat→Option α} (ha : a.size≤m) (hb : b.size≤n) (h : m + n≤1000000) (k : (a ++ b).size≤m + n→j9 f P) : j9 (fun k=>if a.size + b.size≤9223372036854775807 then f k else none) P:=
 j9.grd (by omega) (k (by rw [ByteArray.size_append];omega))
theorem lz (n : Nat) {a : ByteArray} (h : a.size≤n:=by decide) : a.size≤n:=h
theorem bM0 : ∀ (m : Nat) (p : Int) (s : ByteArray) (n : Nat),0≤p→p < 10 ^ (m + 1)→p≤9223372036854775807→s.size≤n→n + m≤1000→j9 (fun k=>s7.l0 k p s) (fun r=>r.size≤n + m + 1):=by
 have one : ∀ x : Int,(strOfNums ([x] : List Int)).size≤1:=fun x=>by rw [strOfNums_size];exact Nat.le_refl _
 intro m
 induction m with
 | zero=>
  intro p s n h0 h1 h2 hs hn
  refine j9.step (fun _=>rfl) ?_
  simp only [s7.l0]
  exact j9.neg (by omega) (j9.gcat (one _) hs (by omega) (fun h=>j9.now (by omega)))
 | succ m ih=>
  intro p s n h0 h1 h2 hs hn
  refine j9.step (fun _=>rfl) ?_
  simp only [s7.l0]
  refine j9.both (fun h=>?_) (fun h=>j9.gcat (one _) hs (by omega) (fun h=>j9.now (by omega)))
  refine j9.gcat (one _) hs (by omega) (fun hc=>?_)
  have e : p.tdiv 10 = p / 10:=Int.tdiv_eq_ediv_of_nonneg h0
  have hp : (10 : Int) ^ (m + 1 + 1) = 10 ^ (m + 1) * 10:=by rw [Int.pow_succ]
  rw [e,m7 (x:=p / 10) (by omega) (by omega)]
  exact (ih (p / 10) _ (1 + n) (by omega) (by omega) (by omega) hc (by omega)).mono (fun r hr=>by omega)
theorem at4 (a : Int) (h : a≤9223372036854775807) : j9 (fun k=>s7.f k a) (fun r=>r.size≤19):=by
 have key : ∀ p : Int,0≤p→p≤9223372036854775807→j9 (fun k=>s7.j0 k p) (fun r=>r.size≤19):=by
  intro p h0 h1
  refine j9.step (fun _=>rfl) ?_
  simp only [s7.j0]
  exact bM0 18 p _ 0 h0 (by omega) h1 (Nat.le_of_eq rfl) (by omega)
 unfold s7.f
 exact j9.both (fun _=>key 0 (by omega) (by omega)) (fun _=>key a (by omega) h)
theorem br0 (a : Int) : j9 (fun _=>U3.f a) (fun r=>r.size≤20):=by
 unfold U3.f
 refine j9.bindc1 (Q4 _ _ _) ?_
 by_cases h : 0≤a∧a≤5
 ·rw [decide_eq_true h]
  refine j9.pos rfl (j9.bindc1 (show ac0.f = some _ from rfl) (j9.grd h.1 (j9.grd (by simp;omega) (j9.now ?_))))
  obtain rfl | rfl | rfl | rfl | rfl | rfl : a = 0∨a = 1∨a = 2∨a = 3∨a = 4∨a = 5:=by omega
  all_goals exact Nat.le_of_ble_eq_true rfl
 ·rw [decide_eq_false h]
  exact j9.neg (by decide) (j9.now (Nat.zero_le _))
theorem aT5 (a d : Int) (h : d≤9223372036854775807) : j9 (fun k=>W1.f k a d) (fun r=>r.size≤40):=by
 unfold W1.f
 refine j9.ofc (br0 a) (fun t h1=>j9.gcat h1 (lz 1) (by omega) (fun h2=>j9.bind (at4 d h) (fun u h3=>j9.gcat h2 h3 (by omega) (fun h4=>j9.now (by omega)))))
theorem aO2 (a d : Int) (h0 : a≤9223372036854775807) (h : d≤9223372036854775807) : j9 (fun k=>T6.f k a d) (fun r=>r.size≤41):=by
 unfold T6.f
 refine j9.bind (at4 a h0) (fun t h1=>j9.gcat h1 (lz 3) (by omega) (fun h2=>j9.bind (at4 d h) (fun u h3=>j9.gcat h2 h3 (by omega) (fun h4=>j9.now (by omega)))))
theorem br5 (ns : List Int) (cs : List B9) (a d : Int) (hv : an2 ⟨ns,cs,a,d⟩ = true) : j9 (fun k=>o6.f k ns cs a d) (fun r=>r.size≤2000):=by
 unfold an2 aw0 an8 at hv
 simp only [Bool.and_eq_true,decide_eq_true_eq] at hv
 obtain ⟨hn,hc,hl1,hl2,_,hd⟩:=hv
 have hnum : ∀ (j : Nat),j < ns.length→rd ns (j : Int)≤4294967295:=by
  intro j hj
  have:=bo6 hn (List.getElem?_eq_getElem hj)
  unfold ar5 at this
  simp only [Bool.and_eq_true,decide_eq_true_eq] at this
  have e : rd ns (j : Int) = ns[j]:=by unfold rd;rw [Int.toNat_natCast];exact J8 ns 0 (List.getElem?_eq_getElem hj)
  rw [e];exact this.1.2
 have hcond : ∀ (j : Nat) (hj : j < cs.length),(0≤(A4 cs (j : Int)).f0∧(A4 cs (j : Int)).f0≤2)∧((A4 cs (j : Int)).f1.f0≤4294967295∧(A4 cs (j : Int)).f1.f1≤4294967295)∧((A4 cs (j : Int)).f3.f0≤4294967295∧(A4 cs (j : Int)).f3.f1≤4294967295)∧(1≤(A4 cs (j : Int)).f2∧(A4 cs (j : Int)).f2≤6):=by
  intro j hj
  have:=List.all_eq_true.1 hc cs[j] (List.getElem_mem hj)
  have e : A4 cs (j : Int) = cs[j]:=by unfold A4;rw [Int.toNat_natCast];exact J8 cs _ (List.getElem?_eq_getElem hj)
  unfold U7 ak4 at this
  simp only [Bool.and_eq_true,decide_eq_true_eq] at this
  rw [e];omega
 have l1 : ∀ s : ByteArray,s.size≤200→j9 (fun k=>o6.l1 k ns cs a d s 0) (fun r=>r.size≤2000):=by
  intro s hs
  refine j9.up (fun k (s : ByteArray) j=>o6.l1 k ns cs a d s j) 3 (fun j s=>s.size≤200 + 200 * j∧j≤cs.length) ?_ s ⟨hs,Nat.zero_le _⟩
  rintro j s hj ⟨hs,hjl⟩ next
  have j2 : ∀ t : ByteArray,t.size≤200 + 200 * j + 5→(hlt : j < cs.length)→j9 (fun k=>o6.j2 k ns cs a d (j : Int) t) (fun r=>r.size≤2000):=by
   intro t ht hlt
   obtain ⟨g1,g2,g3,g4⟩:=hcond j hlt
   refine j9.step (fun _=>rfl) ?_
   simp only [o6.j2]
   refine j9.gcat ht (lz 4) (by omega) (fun h1=>j9.bind (at4 _ (by omega)) (fun t1 b1=>j9.gcat h1 b1 (by omega) (fun h2=>j9.gcat h2 (lz 3) (by omega) (fun h3=>j9.bind (aO2 _ _ (by omega) (by omega)) (fun t2 b2=>j9.gcat h3 b2 (by omega) (fun h4=>j9.gcat h4 (lz 1) (by omega) (fun h5=>j9.bindc1 (show ag9.f = some _ from rfl) (j9.grd (by omega) (j9.grd (by simp;omega) ?_)))))))))
   have hcm : ∀ x : Int,1≤x→x≤6→(M0 ByteArray.empty ([ByteArray.empty,(⟨#[61,61]⟩ : ByteArray),(⟨#[33,61]⟩ : ByteArray),(⟨#[60]⟩ : ByteArray),(⟨#[60,61]⟩ : ByteArray),(⟨#[62]⟩ : ByteArray),(⟨#[62,61]⟩ : ByteArray)] : List ByteArray) x).size≤2:=by
    intro x x0 x1
    obtain rfl | rfl | rfl | rfl | rfl | rfl : x = 1∨x = 2∨x = 3∨x = 4∨x = 5∨x = 6:=by omega
    all_goals exact Nat.le_of_ble_eq_true rfl
   refine j9.gcat h5 (hcm _ g4.1 g4.2) (by omega) (fun h6=>j9.gcat h6 (lz 1) (by omega) (fun h7=>j9.bind (aO2 _ _ (by omega) (by omega)) (fun t3 b3=>j9.gcat h7 b3 (by omega) (fun h8=>?_))))
   rw [m7 (x:=(j : Int) + 1) (by omega) (by omega)]
   exact next _ (by omega) ⟨by omega,hlt⟩
  refine j9.step (fun _=>rfl) ?_
  simp only [o6.l1]
  refine j9.both (fun hlt=>?_) (fun _=>?_)
  ·refine j9.grd (by omega) (j9.both (fun _=>j9.gcat hs (lz 4) (by omega) (fun h=>j2 _ (by omega) (by omega))) (fun _=>j9.gcat hs (lz 5) (by omega) (fun h=>j2 _ h (by omega))))
  ·refine j9.gcat hs (lz 4) (by omega) (fun h1=>j9.bind (aT5 a d (by omega)) (fun t b1=>j9.gcat h1 b1 (by omega) (fun h2=>j9.gcat h2 (lz 2) (by omega) (fun h3=>j9.now (by omega)))))
 have j0 : ∀ s : ByteArray,s.size≤6→j9 (fun k=>o6.j0 k ns cs a d s) (fun r=>r.size≤2000):=by
  intro s hs
  refine j9.step (fun _=>rfl) ?_
  simp only [o6.j0]
  refine j9.up (fun k (s : ByteArray) j=>o6.l0 k ns cs a d s j) 4 (fun j s=>s.size≤6 + 22 * j∧j≤ns.length) ?_ s ⟨hs,Nat.zero_le _⟩
  rintro j s hj ⟨hs,hjl⟩ next
  have j1 : ∀ t : ByteArray,t.size≤6 + 22 * j + 3→j < ns.length→j9 (fun k=>o6.j1 k ns cs a d (j : Int) t) (fun r=>r.size≤2000):=by
   intro t ht hlt
   refine j9.step (fun _=>rfl) ?_
   simp only [o6.j1]
   refine j9.grd (by omega) (j9.bind (at4 _ (by have:=hnum j hlt;omega)) (fun u b1=>j9.gcat ht b1 (by omega) (fun h=>?_)))
   rw [m7 (x:=(j : Int) + 1) (by omega) (by omega)]
   exact next _ (by omega) ⟨by omega,hlt⟩
  refine j9.step (fun _=>rfl) ?_
  simp only [o6.l0]
  refine j9.both (fun hlt=>?_) (fun _=>l1 s (by omega))
  exact j9.both (fun _=>j9.gcat hs (lz 3) (by omega) (fun h=>j1 _ h (by omega))) (fun _=>j1 s (by omega) (by omega))
 unfold o6.f
 exact j9.both (fun _=>j9.gcat (lz 3) (lz 3) (by omega) (fun h=>j0 _ h)) (fun _=>j0 _ (lz 6))
set_option maxRecDepth 100000 in
theorem ba5 (a c d : Int) (l : List D9) (hl : Sm l) (hv : ap5 a c d l = true) : j9 (fun k=>F4.f k a c d l) (fun r=>r.1.size≤1200):=by
 have hv2:=hv
 unfold ap5 at6 an8 at hv2
 simp only [Bool.and_eq_true,decide_eq_true_eq] at hv2
 obtain ⟨hr,ha,hd,hn⟩:=hv2
 have l0 : ∀ s : ByteArray,s.size≤200→j9 (fun k=>F4.l0 k a c d l s 0) (fun r=>r.1.size≤1200):=by
  intro s hs
  refine j9.up (fun k (s : ByteArray) j=>F4.l0 k a c d l s j) 10 (fun j s=>s.size≤200 + 2001 * j∧j≤l.length) ?_ s ⟨hs,Nat.zero_le _⟩
  rintro j s hj ⟨hs,hjl⟩ next
  refine j9.step (fun _=>rfl) ?_
  simp only [F4.l0]
  refine j9.both (fun hlt=>?_) (fun _=>j9.both (fun _=>j9.now (Nat.zero_le _)) (fun h=>j9.now (by show s.size≤1200;omega)))
  have hx : l[j]? = some l[j]:=List.getElem?_eq_getElem (by omega)
  have hrv:=List.all_eq_true.1 hr l[j] (List.getElem_mem _)
  rw [aL0 hx]
  refine j9.gcat hs (lz 1) (by omega) (fun h1=>j9.grd (by omega) (j9.bind (br5 _ _ _ _ hrv) (fun t b1=>j9.gcat h1 b1 (by omega) (fun h2=>?_))))
  rw [m7 (x:=(j : Int) + 1) (by omega) (by omega)]
  exact next _ (by omega) ⟨by omega,by omega⟩
 unfold F4.f
 have e:=aw9 a c d l hl
 rw [hv] at e
 refine j9.bind1 e (j9.pos rfl (j9.bind (at4 a (by omega)) (fun t b1=>j9.gcat (lz 5) b1 (by omega) (fun h1=>j9.gcat h1 (lz 11) (by omega) (fun h2=>j9.bind (aT5 c d (by omega)) (fun u b2=>j9.gcat h2 b2 (by omega) (fun h3=>j9.gcat h3 (lz 2) (by omega) (fun h4=>l0 _ (by omega)))))))))
theorem j9.pickB {α : Type} {P : α→Prop} {b : List Int} {i s : Int} {l : List ByteArray} {f : Nat→(ByteArray×List Int×Int×Int)→Option α} (h : Rd b i) (hl : 0 < l.length) (hl2 : l.length≤256) (k : ∀ v i' s',Rd b i'→v ∈ l→j9 (fun m=>f m (v,b,i',s')) P) : j9 (fun m=>(R8.f b i s l).bind (f m)) P:=by
 have key : j9 (fun _ : Nat=>R8.f b i s l) (fun r=>∃ v i' s',r = (v,b,i',s')∧Rd b i'∧v ∈ l):=by
  unfold R8.f
  refine j9.below (f:=fun _ (t1 : Int×List Int×Int×Int)=>if 0≤t1.1 then (if t1.1 < (l.length : Int) then some ((M0 ByteArray.empty l t1.1),t1.2.1,t1.2.2.1,t1.2.2.2) else none) else none) h (by omega) (fun v i' s' h1 v0 v1=>?_)
  refine j9.grd v0 (j9.grd v1 (j9.now ⟨_,_,_,rfl,h1,ad1 v0 v1⟩))
 exact j9.ofc (f:=f) key (fun r hr=>by obtain ⟨v,i',s',rfl,h1,h2⟩:=hr;exact k v i' s' h1 h2)
def EvI (q : List Evt) : Prop:=∀ e ∈ q,V9 e = true∧e.f3.f2.length≤1000
theorem EvI.snoc {q : List Evt} (h : EvI q) {e : Evt} (he : V9 e = true) (hl : e.f3.f2.length≤1000) : EvI (q ++ [e]):=fun x hx=>by
 rcases List.mem_append.1 hx with hx | hx
 ·exact h x hx
 ·rw [List.mem_singleton] at hx;subst hx;exact ⟨he,hl⟩
theorem ad5 {kd at_ num : Int} (h1 : 2≤kd∧kd≤12) (h2 : 0≤at_) (h3 : 0≤num) : V9 (⟨kd,at_,num,⟨0,0,[]⟩,ByteArray.empty⟩ : Evt) = true:=by
 unfold V9
 simp only [Bool.and_eq_true,Bool.or_eq_true,decide_eq_true_eq]
 exact ⟨by omega,h2,h3,by rw [if_neg (by omega)];exact decide_eq_true ⟨trivial,trivial,rfl⟩,.inl rfl⟩
theorem bt5 {at_ : Int} {t : ByteArray} (h2 : 0≤at_) (h : t.size≤1200) : V9 (⟨2,at_,0,⟨0,0,[]⟩,t⟩ : Evt) = true:=by
 unfold V9
 simp only [Bool.and_eq_true,Bool.or_eq_true,decide_eq_true_eq]
 exact ⟨by omega,h2,by omega,by rw [if_neg (by omega)];exact decide_eq_true ⟨trivial,trivial,rfl⟩,.inr ⟨trivial,h⟩⟩
theorem bf5 (b : List Int) (i s : Int) (h : Rd b i) : j9 (fun k=>V6.f k b i s) (fun r=>∃ t i' s',r = (t,b,i',s')∧Rd b i'∧t.size≤1200):=by
 unfold V6.f
 refine j9.once h (by omega) (fun v i1 s1 h1=>j9.both (fun _=>?_) (fun _=>?_))
 ·refine j9.pickB h1 (by simp) (by simp) (fun t i2 s2 h2 ht=>j9.now ⟨t,i2,s2,rfl,h2,?_⟩)
  simp only [List.mem_cons,List.not_mem_nil,or_false] at ht
  rcases ht with rfl | rfl | rfl | rfl
  all_goals exact Nat.le_of_ble_eq_true rfl
 ·refine j9.bind (bf8 b i1 s1 h1) ?_
  rintro _ ⟨a,c,d,l,i2,s2,rfl,h2,hs,_,hv⟩
  exact j9.bind (ba5 a c d l hs hv) (fun t ht=>j9.now ⟨t.1,i2,s2,rfl,h2,ht⟩)
theorem be7 (b : List Int) (hb : b.length≤1048576) : j9 (fun k=>n5.f k b) (fun l=>EvI l∧l.length≤82):=by
 have l1 : ∀ (p : Int),p≤80→∀ (d : Nat) (q : List Evt) (i s : Int),(p - (q.length : Int)).toNat = d→q.length≤82→Rd b i→EvI q→j9 (fun k=>n5.l1 k p b i s q) (fun l=>EvI l∧l.length≤82):=by
  intro p hp d
  induction d using Nat.strongRecOn with
  | _ d ih=>
   intro q i s hd hq hr he
   have again : ∀ (e : List Evt) (i s : Int),1≤e.length→(q.length : Int) < p→q.length + e.length≤82→Rd b i→EvI (q ++ e)→j9 (fun k=>n5.l1 k p b i s (q ++ e)) (fun l=>EvI l∧l.length≤82):=by
    intro e i s h1 h2 h3 h4 h5
    exact ih (p - ((q ++ e).length : Int)).toNat (by rw [List.length_append];omega) (q ++ e) i s rfl (by rw [List.length_append];omega) h4 h5
   refine j9.step (fun _=>rfl) ?_
   simp only [n5.l1]
   refine j9.both (fun hlt=>?_) (fun _=>j9.now ⟨he,hq⟩)
   have one : ∀ (e : Evt) (i s : Int),Rd b i→V9 e = true→e.f3.f2.length≤1000→j9 (fun k=>if q.length + ([e] : List Evt).length < 1759218604441 then n5.l1 k p b i s (q ++ [e]) else none) (fun l=>EvI l∧l.length≤82):=by
    intro e i s h1 h2 h3
    exact j9.grd (by simp only [List.length_cons,List.length_nil];omega) (again [e] i s (by simp) hlt (by simp only [List.length_cons,List.length_nil];omega) h1 (he.snoc h2 h3))
   have two : ∀ (e f : Evt) (i s : Int),Rd b i→V9 e = true→e.f3.f2.length≤1000→V9 f = true→f.f3.f2.length≤1000→j9 (fun k=>if q.length + ([e,f] : List Evt).length < 1759218604441 then n5.l1 k p b i s (q ++ [e,f]) else none) (fun l=>EvI l∧l.length≤82):=by
    intro e f i s h1 h2 h3 h4 h5
    refine j9.grd (by simp only [List.length_cons,List.length_nil];omega) (again [e,f] i s (by simp) hlt (by simp only [List.length_cons,List.length_nil];omega) h1 ?_)
    have:=(he.snoc h2 h3).snoc h4 h5
    rwa [List.append_assoc] at this
   refine j9.below hr (by omega) (fun at_ i1 s1 h1 a0 a1=>j9.below h1 (by omega) (fun num i2 s2 h2 n0 n1=>j9.below h2 (by omega) (fun k i3 s3 h3 k0 k1=>?_)))
   refine j9.both (fun _=>?_) (fun _=>j9.both (fun _=>?_) (fun _=>j9.both (fun _=>?_) (fun _=>j9.both (fun _=>?_) (fun _=>j9.both (fun _=>?_) (fun _=>j9.both (fun _=>?_) (fun _=>j9.both (fun _=>?_) (fun _=>j9.both (fun _=>?_) (fun _=>j9.both (fun _=>?_) (fun _=>?_)))))))))
   ·refine j9.bind (bq3 b i3 s3 h3) ?_
    rintro _ ⟨x,y,l,i4,s4,rfl,h4,hl,hw,hx,hy⟩
    refine one _ i4 s4 h4 ?_ (by show l.length≤1000;omega)
    unfold V9
    simp only [Bool.and_eq_true,Bool.or_eq_true,decide_eq_true_eq]
    refine ⟨by omega,a0,by omega,?_,.inl rfl⟩
    rw [if_pos trivial]
    unfold X6 av3
    simp only [Bool.and_eq_true,decide_eq_true_eq,beq_iff_eq,List.all_eq_true]
    refine ⟨fun w hwm=>?_,hx,by omega,by omega⟩
    have:=hw w hwm
    unfold ak4
    simp only [Bool.and_eq_true,decide_eq_true_eq]
    exact this
   ·refine j9.below h3 (by omega) (fun a i4 s4 h4 b0 b1=>j9.bind (bf5 b i4 s4 h4) ?_)
    rintro _ ⟨t,i5,s5,rfl,h5,ht⟩
    exact one _ i5 s5 h5 (bt5 b0 ht) (Nat.zero_le _)
   ·exact one _ i3 s3 h3 (ad5 (by omega) (by omega) n0) (Nat.zero_le _)
   ·exact two _ _ i3 s3 h3 (ad5 (by omega) a0 (by omega)) (Nat.zero_le _) (ad5 (by omega) a0 (by omega)) (Nat.zero_le _)
   ·exact j9.below h3 (by omega) (fun a i4 s4 h4 b0 b1=>one _ i4 s4 h4 (ad5 (by omega) (by omega) b0) (Nat.zero_le _))
   ·refine j9.pick h3 (by simp) (fun v i4 s4 h4 hv=>j9.below h4 (by omega) (fun a i5 s5 h5 b0 b1=>one _ i5 s5 h5 (ad5 ?_ (by omega) b0) (Nat.zero_le _)))
    simp at hv;omega
   ·refine j9.below h3 (by omega) (fun a i4 s4 h4 b0 b1=>one _ i4 s4 h4 (ad5 (by omega) ?_ b0) (Nat.zero_le _))
    rw [m7 (x:=3 * num) (by omega) (by omega)];omega
   ·exact two _ _ i3 s3 h3 (ad5 (by omega) (by omega) (by omega)) (Nat.zero_le _) (ad5 (by omega) a0 (by omega)) (Nat.zero_le _)
   ·exact one _ i3 s3 h3 (ad5 (by omega) (by omega) (by omega)) (Nat.zero_le _)
   ·exact one _ i3 s3 h3 (ad5 (by omega) a0 n0) (Nat.zero_le _)
 have l0 : ∀ (p : Int),p≤80→∀ (s : Int),j9 (fun k=>n5.l0 k p b 0 s [] 0) (fun l=>EvI l∧l.length≤82):=by
  intro p hp s
  refine j9.up (fun k (t : Int×Int×List Evt) j=>n5.l0 k p b t.1 t.2.1 t.2.2 j) 2 (fun j t=>Rd b t.1∧t.2.2.length≤j∧EvI t.2.2) ?_ (0,s,[]) ⟨⟨hb,by omega,by omega⟩,Nat.zero_le _,fun e he=>by simp at he⟩
  rintro j ⟨i,s,q⟩ hj ⟨hr,hl,he⟩ next
  replace hr : Rd b i:=hr
  replace hl : q.length≤j:=hl
  replace he : EvI q:=he
  refine j9.step (fun _=>rfl) ?_
  simp only [n5.l0]
  rw [m7 (x:=(j : Int) + 1) (by omega) (by omega)]
  refine j9.both (fun hlt=>j9.once hr (by omega) (fun v i1 s1 h1=>j9.both (fun _=>next (i1,s1,q) (by omega) ⟨h1,by show q.length≤j + 1;omega,he⟩) (fun _=>?_))) (fun _=>l1 p hp _ q i s rfl (by omega) hr he)
  refine j9.pickB h1 (by simp) (by simp) (fun t i2 s2 h2 ht=>j9.grd (by simp only [List.length_cons,List.length_nil];omega) (next (i2,s2,q ++ [⟨2,(j : Int),0,⟨0,0,[]⟩,t⟩]) (by omega) ⟨h2,by show (q ++ [_]).length≤j + 1;rw [List.length_append,List.length_singleton];omega,he.snoc (bt5 (by omega) ?_) (Nat.zero_le _)⟩))
  simp only [List.mem_cons,List.not_mem_nil,or_false] at ht
  rcases ht with rfl | rfl
  all_goals exact Nat.le_of_ble_eq_true rfl
 obtain ⟨s,e⟩:=bB7 b hb
 unfold n5.f
 have ed : ((b.length : Int)).tdiv 3 = (b.length : Int) / 3:=Int.tdiv_eq_ediv_of_nonneg (by omega)
 rw [ed,m7 (x:=(b.length : Int) / 3) (by omega) (by omega),m7 (x:=14 + (b.length : Int) / 3) (by omega) (by omega)]
 have j0 : ∀ p : Int,p≤80→j9 (fun k=>n5.j0 k (b,0,s) p) (fun l=>EvI l∧l.length≤82):=by
  intro p hp
  refine j9.step (fun _=>rfl) ?_
  simp only [n5.j0]
  exact l0 p hp s
 exact j9.bind1 e (j9.both (fun _=>j0 80 (by omega)) (fun h=>j0 _ (by omega)))
end Go.Proofs.YtahmbcgolnplgaaGreat.PFnNoHoles
