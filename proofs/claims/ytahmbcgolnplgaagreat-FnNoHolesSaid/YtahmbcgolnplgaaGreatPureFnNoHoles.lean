/- laws.FnNoHoles returns true at every input. No condition. -/
import Derived.Test.YtahmbcgolnplgaaGreatDevL
import Derived.Test.YtahmbcgolnplgaaGreatArgFnNoHoles
set_option linter.unusedVariables false
set_option linter.unusedSimpArgs false
namespace Go.Proofs.YtahmbcgolnplgaaGreat.PFnNoHoles
open Go Go.RowKit Go.Proofs.YtahmbcgolnplgaaGreatA Go.Proofs.YtahmbcgolnplgaaGreatL Go.Proofs.YtahmbcgolnplgaaGreat.AFnNoHoles
theorem cf8 {l : List E9} {i : Nat} {x : E9} (h : l[i]? = some x) : Q9 l (i : Int) = x:=by
 unfold Q9;simpa using J8 l z42 h
def bg1 (pid : Int) (s : List E9) (x : E9) : Except (List E9) (List E9):=.ok (if x.f0 = pid then s ++ [x] else s)
def au1 (pid : Int) (l : List E9) : List E9:=ab7 (bg1 pid) id l []
theorem aT6 (w0 : List (List (List f9))) (w1 : List H7) (w2 : List D3) (w3 : List D1) (w4 : List Int) (w5 : List A2) (w6 : Int) (w7 : List Int) (w8 : List C7) (w9 : Int) (w10 : List Int) (l : List E9) (pid : Int) (hn : l.length≤1048576) : Ev (fun k=>J3.f k w0 w1 w2 w3 w4 w5 w6 w7 w8 w9 w10 l pid) (au1 pid l):=by
 unfold J3.f au1
 have:=aE7 (fun k s i=>J3.l0 k w0 w1 w2 w3 w4 w5 w6 w7 w8 w9 w10 l pid s i) l (bg1 pid) id (fun i s=>s.length≤i) ?_ ?_ ?_ l.length 0 [] rfl (Nat.zero_le _) (by simp)
 ·simpa using this
 ·intro s hs
  refine Ev.step (f:=fun _=>some s) (fun k=>?_) (Ev.now _)
  simp only [J3.l0];rw [if_neg (by omega)]
 ·intro i x s e hx hs he;cases he
 ·intro i x s s' hx hs he
  have hi:=G7 hx
  obtain rfl : (if x.f0 = pid then s ++ [x] else s) = s':=by injection he
  refine ⟨by split <;> (try simp) <;> omega,fun r h=>?_⟩
  refine Ev.step (fun k=>?_) h
  simp only [J3.l0]
  rw [if_pos (by omega),if_pos (by omega),cf8 hx,m7 (by omega) (by omega)]
  by_cases hp : x.f0 = pid
  ·rw [if_pos hp,if_pos hp,if_pos (by simp only [List.length_cons,List.length_nil];omega)]
  ·rw [if_neg hp,if_neg hp]
def bg0 (pid : Int) (s : List u5) (x : D1) : Except (List u5) (List u5):=.ok (if x.f0 = pid then s ++ [x.f2] else s)
def av5 (pid : Int) (l : List D1) : List u5:=ab7 (bg0 pid) id l []
theorem aN7 (l : List D1) (l1 : List Int) (l2 : List A2) (a : Int) (l4 : List Int) (pid : Int) (hn : l.length≤1048576) : Ev (fun k=>E6.f k l l1 l2 a l4 pid) (av5 pid l):=by
 unfold E6.f av5
 have:=aE7 (fun k s i=>E6.l0 k l l1 l2 a l4 pid s i) l (bg0 pid) id (fun i s=>s.length≤i) ?_ ?_ ?_ l.length 0 [] rfl (Nat.zero_le _) (by simp)
 ·simpa using this
 ·intro s hs
  refine Ev.step (f:=fun _=>some s) (fun k=>?_) (Ev.now _)
  simp only [E6.l0];rw [if_neg (by omega)]
 ·intro i x s e hx hs he;cases he
 ·intro i x s s' hx hs he
  have hi:=G7 hx
  obtain rfl : (if x.f0 = pid then s ++ [x.f2] else s) = s':=by injection he
  refine ⟨by split <;> (try simp) <;> omega,fun r h=>?_⟩
  refine Ev.step (fun k=>?_) h
  simp only [E6.l0]
  rw [if_pos (by omega),if_pos (by omega),cg5 hx,m7 (by omega) (by omega)]
  by_cases hp : x.f0 = pid
  ·rw [if_pos hp,if_pos hp,if_pos (by simp only [List.length_cons,List.length_nil];omega)]
  ·rw [if_neg hp,if_neg hp]
theorem bu8 (p : Int) : ∀ (l : List En) (s : List It),ab7 (bg0 p) id l s = s ++ ofP p l
 | [],s=>by simp [ab7,ofP]
 | x :: r,s=>by
  rw [ao3 r (show bg0 p s x = .ok (if x.f0 = p then s ++ [x.f2] else s) from rfl),bu8 p r]
  unfold ofP
  rw [List.filter_cons]
  by_cases h : x.f0 = p
  ·rw [if_pos h,if_pos (by simpa using h),List.map_cons,List.append_assoc];rfl
  ·rw [if_neg h,if_neg (by simpa using h)]
theorem bp6 (p : Int) (l : List En) : av5 p l = ofP p l:=by unfold av5;rw [bu8];rfl
theorem bt4 (p : Int) : ∀ (l s : List Sn),ab7 (bg1 p) id l s = s ++ l.filter (fun x=>x.f0 == p)
 | [],s=>by simp [ab7]
 | x :: r,s=>by
  rw [ao3 r (show bg1 p s x = .ok (if x.f0 = p then s ++ [x] else s) from rfl),bt4 p r,List.filter_cons]
  by_cases h : x.f0 = p
  ·rw [if_pos h,if_pos (by simpa using h),List.append_assoc];rfl
  ·rw [if_neg h,if_neg (by simpa using h)]
theorem bd9 (p : Int) (l : List Sn) : au1 p l = l.filter (fun x=>x.f0 == p):=by unfold au1;rw [bt4];rfl
def unH (l : List Sn) : Int:=(l.map (fun x=>if x.f3 = true then (0 : Int) else 1)).sum
theorem bk8 (x : Sn) (l : List Sn) : unH (x :: l) = (if x.f3 = true then (0 : Int) else 1) + unH l:=rfl
theorem bD0 (x : It) (l : List It) : Z2 (x :: l) = x.f3 + Z2 l:=rfl
theorem bE9 (p : Int) : ∀ l : List Sn,unH (au1 p l) = nU p l:=by
 intro l
 rw [bd9]
 induction l with
 | nil=>rfl
 | cons x r ih=>
  have e : nU p (x :: r) = (if x.f0 = p∧x.f3 = false then 1 else 0) + nU p r:=rfl
  rw [e,List.filter_cons]
  by_cases h : x.f0 = p
  ·rw [if_pos (by simpa using h),bk8,ih]
   cases hf : x.f3 with
   | true=>rw [if_pos rfl,if_neg (fun h=>by cases h.2)]
   | false=>rw [if_neg (by decide),if_pos ⟨h,rfl⟩]
  ·rw [if_neg (by simpa using h),if_neg (fun h2=>h h2.1),ih];omega
theorem bA5 (p : Int) (l : List Sn) : (au1 p l).length≤l.length:=by rw [bd9];exact List.length_filter_le _ _
theorem rSn {l : List Sn} {i : Nat} {x : Sn} (h : l[i]? = some x) : Q9 l (i : Int) = x:=by
 unfold Q9;simpa using J8 l z42 h
theorem rIt {l : List It} {i : Nat} {x : It} (h : l[i]? = some x) : H2 l (i : Int) = x:=by
 unfold H2;simpa using J8 l z46 h
abbrev W6:=List (List (List Iw))×List Rg×List Sd×List En'×List Int×List Er'×Int×List Int×List Lt×Int×List Int×List Sn×List Int×Bool
abbrev W8:=List (List (List Iw))×List Rg×List Sd×List En'×List Int×List Er'×Int×List Int×List Lt×Int×List Int×List Sn
theorem bJ3 (t6 : W6) (t8 : W8) (p : Int) (t : List Sn) (ht : t.length≤1000) (r : Bool) (u : List It) (hu : Ev (fun k=>E6.f k t8.2.2.2.1 t8.2.2.2.2.1 t8.2.2.2.2.2.1 t8.2.2.2.2.2.2.1 t8.2.2.2.2.2.2.2.1 p) u) (h : Ev (fun k=>r6.l1 k t6 t8 p (unH t) u 0 0) r) :
 ∀ (d i : Nat) (a : Int),t.length - i = d→i≤t.length→0≤a→a≤i→a + unH (t.drop i) = unH t→Ev (fun k=>r6.l0 k t6 t8 p t a (i : Int)) r:=by
 intro d
 induction d with
 | zero=>
  intro i a hd hi h0 h1 hs
  rw [List.drop_of_length_le (by omega)] at hs
  have hs' : a = unH t:=by have : unH ([] : List Sn) = 0:=rfl;omega
  refine Ev.step (fun _=>rfl) ?_
  simp only [r6.l0]
  rw [hs']
  exact Ev.neg (by omega) (Ev.bind hu h)
 | succ d ih=>
  intro i a hd hi h0 h1 hs
  have hx : t[i]? = some t[i]:=List.getElem?_eq_getElem (by omega)
  rw [List.drop_eq_getElem_cons (by omega),bk8] at hs
  refine Ev.step (fun _=>rfl) ?_
  simp only [r6.l0]
  rw [rSn hx,m7 (x:=(i : Int) + 1) (by omega) (by omega)]
  refine Ev.pos (by omega) (Ev.pos (by omega) (Ev.both (fun hh=>?_) (fun hh=>?_)))
  ·rw [if_pos hh] at hs
   exact ih (i + 1) a (by omega) (by omega) h0 (by omega) (by omega)
  ·rw [if_neg hh] at hs
   rw [m7 (x:=a + 1) (by omega) (by omega)]
   exact ih (i + 1) (a + 1) (by omega) (by omega) (by omega) (by omega) (by omega)
theorem bK9 (t6 : W6) (t8 : W8) (p : Int) (u : List It) (hu : u.length≤1000) (ho : u.all I3 = true) (r : Bool) (h : Ev (fun k=>r6.l2 k t6 t8 (p + 1)) r) (hp : 0≤p∧p≤2) :
 ∀ (d i : Nat) (a : Int),u.length - i = d→i≤u.length→0≤a→a≤1000000000 * (i : Int)→a + Z2 (u.drop i) = Z2 u→Ev (fun k=>r6.l1 k t6 t8 p (Z2 u) u a (i : Int)) r:=by
 intro d
 induction d with
 | zero=>
  intro i a hd hi h0 h1 hs
  rw [List.drop_of_length_le (by omega)] at hs
  have hs' : a = Z2 u:=by have : Z2 ([] : List It) = 0:=rfl;omega
  refine Ev.step (fun _=>rfl) ?_
  simp only [r6.l1]
  rw [m7 (x:=p + 1) (by omega) (by omega)]
  exact Ev.neg (by omega) (Ev.pos hs' h)
 | succ d ih=>
  intro i a hd hi h0 h1 hs
  have hx : u[i]? = some u[i]:=List.getElem?_eq_getElem (by omega)
  have hi2:=List.all_eq_true.1 ho u[i] (List.getElem_mem _)
  have hr:=aq9 (a:=u[i].f0) (b:=u[i].f1) (c:=u[i].f2) (d:=u[i].f3) hi2
  rw [List.drop_eq_getElem_cons (by omega),bD0] at hs
  refine Ev.step (fun _=>rfl) ?_
  simp only [r6.l1]
  rw [rIt hx,m7 (x:=(i : Int) + 1) (by omega) (by omega),m7 (x:=a + u[i].f3) (by omega) (by omega)]
  exact Ev.pos (by omega) (Ev.pos (by omega) (ih (i + 1) (a + u[i].f3) (by omega) (by omega) (by omega) (by omega) (by omega)))
theorem pure : bv8:=by
 intro l hl
 refine Ev.rounds ?_
 unfold r6.f
 refine Ev.bindc rfl ?_
 by_cases hbig : (l.length : Int) > 1048576
 ·exact Ev.pos (by simpa using hbig) (Ev.now _)
 refine Ev.neg (by simpa using hbig) ?_
 obtain ⟨es,e1,he,hn⟩:=be7 l (by omega)
 have e2 : Ev (fun k=>U5.f k l) es:=by unfold U5.f;exact Ev.bind e1 (Ev.now _)
 refine Ev.bind e2 ?_
 obtain ⟨w,cs,T,hr,hw⟩:=bt2 es 0 (fun _=>[]) w0 [] (by omega) (fun e h=>(he e h).1) bB4
 have e3:=aW4 es (by omega) (fun e h=>(he e h).1) (fun e h=>by have:=(he e h).2;omega) hr
 refine Ev.bind e3 ?_
 obtain ⟨T',w',hw',hf,hd,e4⟩:=aQ1 hw (by omega)
 refine Ev.bind e4 ?_
 have fi:=hw.fi
 have fin : Ev (fun k=>r6.l2 k (w.s,w.r,w.d,w.L,w.N,w.E,w.a,w.A,w.net,w.now,w.res,w.file,cs,true) (tw { w' with net:=[] }) 3) true:=by
  refine Ev.step (fun _=>rfl) ?_
  simp only [r6.l2]
  exact Ev.neg (by omega) (Ev.pos trivial (Ev.now _))
 have step : ∀ p : Int,0≤p→p≤2→Ev (fun k=>r6.l2 k (w.s,w.r,w.d,w.L,w.N,w.E,w.a,w.A,w.net,w.now,w.res,w.file,cs,true) (tw { w' with net:=[] }) (p + 1)) true→Ev (fun k=>r6.l2 k (w.s,w.r,w.d,w.L,w.N,w.E,w.a,w.A,w.net,w.now,w.res,w.file,cs,true) (tw { w' with net:=[] }) p) true:=by
  intro p p0 p2 hnext
  have hlog:=ao5 hw'.K (fun p p0 p2=>hw'.Tn p0 p2)
  have hLl : w'.L.length≤90:=by have:=hlog.1;rw [hf] at this;omega
  have hD:=hd p p0 p2
  obtain ⟨_,_,h3⟩:=hlog.2 p p0 p2
  have hN:=hD.N
  have hof : ofP p w'.L = T' p:=by rw [h3,show (rd w'.N p - 1).toNat = (T' p).length by omega,List.take_length]
  have hPI:=hw'.P p p0 p2
  have hrg:=R2 (hw'.rg p0 p2).1
  have hC:=hD.C
  have hr0 : (y3 w' p).f0 = []:=by
   unfold rgC at hC
   exact List.eq_nil_of_length_eq_zero (by omega)
  have hr2 : (y3 w' p).f2 = 0:=by
   unfold rgC at hC
   by_cases h : (y3 w' p).f2 > 0
   ·rw [if_pos h] at hC;omega
   ·omega
  have hsum : Z2 (T' p) = nU p w.file:=by
   have:=hPI.h
   rw [hr0,hr2,hf] at this
   have z : Z2 ([] : List It) = 0:=rfl
   omega
  have hTl : (T' p).length≤90:=by rw [← hof];unfold ofP;rw [List.length_map];exact Nat.le_trans (List.length_filter_le _ _) hLl
  refine Ev.step (fun _=>rfl) ?_
  simp only [r6.l2]
  refine Ev.pos (by omega) (Ev.bind (aT6 w.s w.r w.d w.L w.N w.E w.a w.A w.net w.now w.res w.file p (by omega)) ?_)
  have hfl:=bA5 p w.file
  refine bJ3 _ _ p (au1 p w.file) (by omega) true (av5 p w'.L) (aN7 w'.L w'.N w'.E w'.a w'.A p (by omega)) ?_ _ 0 0 rfl (Nat.zero_le _) (Int.le_refl _) (Int.le_refl _) (by rw [List.drop_zero];omega)
  rw [bE9,← hsum,bp6,hof]
  exact bK9 _ _ p (T' p) (by omega) hPI.ti true hnext ⟨p0,p2⟩ _ 0 0 rfl (Nat.zero_le _) (Int.le_refl _) (Int.le_refl _) (by rw [List.drop_zero];omega)
 exact step 0 (by omega) (by omega) (step 1 (by omega) (by omega) (step 2 (by omega) (by omega) fin))
end Go.Proofs.YtahmbcgolnplgaaGreat.PFnNoHoles
namespace Go.Proofs.YtahmbcgolnplgaaGreat
theorem fnNoHoles_holds : Rows.FnNoHolesSaid:=AFnNoHoles.row PFnNoHoles.pure
#print axioms fnNoHoles_holds
end Go.Proofs.YtahmbcgolnplgaaGreat
